import Derived.Test.YtapgmbilojbacaaGamesGenB
set_option linter.unusedVariables false
set_option linter.unusedSimpArgs false
set_option linter.unusedSectionVars false

namespace Go.Proofs
open Go.Ide Go.IntWalk


end Go.Proofs


namespace Go.Proofs
open Go.Ide Go.IntWalk

theorem in64 (a b c : Int) : spec_l00In a b c = some (decide (a ≥ b) && decide (a ≤ c)) := by
 unfold spec_l00In
 cases h : decide (a ≥ b) <;> simp
theorem within64 (a b c : Int) : impl_within a b c = some (decide (a ≥ b) && decide (a ≤ c)) := by
 unfold impl_within
 cases h : decide (a ≥ b) <;> simp

def allIn (xs : List Int) (b c : Int) : Bool := xs.all fun x => decide (x ≥ b) && decide (x ≤ c)

theorem allIn_iff {xs : List Int} {b c : Int} : allIn xs b c = true ↔ ∀ i, i < xs.length → b ≤ xs.getD i 0 ∧ xs.getD i 0 ≤ c := by
 unfold allIn
 rw [List.all_eq_true]
 constructor
 ·intro h i hi
  have := h xs[i] (List.getElem_mem hi)
  simp only [Bool.and_eq_true, decide_eq_true_eq] at this
  rw [List.getD_eq_getElem?_getD, List.getElem?_eq_getElem hi]
  exact ⟨this.1, this.2⟩
 ·intro h x hx
  obtain ⟨i, hi, rfl⟩ := List.getElem_of_mem hx
  have := h i hi
  rw [List.getD_eq_getElem?_getD, List.getElem?_eq_getElem hi] at this
  simp only [Bool.and_eq_true, decide_eq_true_eq]
  exact ⟨this.1, this.2⟩

theorem allN_in (xs : List Int) (b c : Int) : allN (fun i => decide (xs.getD i 0 ≥ b) && decide (xs.getD i 0 ≤ c)) xs.length 0 = allIn xs b c := by
 rw [Bool.eq_iff_iff, allN_iff, allIn_iff]
 constructor
 ·intro h i hi
  have := h i (by omega) (by omega)
  simp only [Bool.and_eq_true, decide_eq_true_eq] at this
  exact ⟨this.1, this.2⟩
 ·intro h i _ hi
  have := h i (by omega)
  simp only [Bool.and_eq_true, decide_eq_true_eq]
  exact ⟨this.1, this.2⟩

theorem areWithin64 {xs : List Int} {b c : Int} (h : xs.length ≤ 4294967296) : impl_areWithin xs b c = some (allIn xs b c) := by
 unfold impl_areWithin
 have := rounds_all (f := impl_areWithin_B1 xs b c) (fun i => ((i : Nat) : Int)) (fun i => decide (xs.getD i 0 ≥ b) && decide (xs.getD i 0 ≤ c)) (Sum.inl ()) (Sum.inr ()) (n := xs.length) (fun i hi => by
  unfold impl_areWithin_B1
  simp only [ltN hi, cond_true, guard_pos (idxN hi), Int.toNat_natCast, within64, Option.bind_some, nextN hi h]
  cases (decide (xs.getD i 0 ≥ b) && decide (xs.getD i 0 ≤ c)) <;> rfl) (by
  unfold impl_areWithin_B1
  simp only [geN (Nat.le_refl _), cond_false]) xs.length 0 (by omega)
 rw [allN_in] at this
 simp only [Int.natCast_zero] at this
 simp only [this, Option.bind_some]
 cases allIn xs b c <;> rfl

structure Plain (m c : Nat) (nx : List Int) (es : List Bool) : Prop where
 m1 : 1 ≤ m
 m2 : m ≤ 64
 c1 : 1 ≤ c
 c2 : c ≤ 4
 len : nx.length = m * c
 ends : es.length = m
 to : ∀ i, i < m * c → ∃ t : Nat, nx.getD i 0 = (t : Int) ∧ t < m

section
variable {m c : Nat} {nx : List Int} {es : List Bool} (hp : Plain m c nx es)
include hp

end

end Go.Proofs


/-
 Sets as bits; valid games.
-/
namespace Go.Proofs
open Go.Ide Go.IntWalk

theorem fdiv_pow (N v : Nat) : Int.fdiv (N : Int) (2 ^ v) = ((N / 2 ^ v : Nat) : Int) := by
 have h : ((2 ^ v : Nat) : Int) = (2 : Int) ^ v := by simp
 rw [← h, Int.fdiv_eq_ediv_of_nonneg _ (Int.natCast_nonneg _), ← Int.natCast_ediv]

theorem bit_val {N v : Nat} (hN : N < 65536) (hv : v < 16) : IntKind.wrap .u32 (((BitVec.ofInt (IntKind.bits .u32) (Int.fdiv (N : Int) (2 ^ (min v (IntKind.bits .u32)))) &&& BitVec.ofInt (IntKind.bits .u32) (1 : Int)).toNat : Nat) : Int) = if N.testBit v then 1 else 0 := by
 have h1 : min v (IntKind.bits .u32) = v := Nat.min_eq_left (by show v ≤ 32; omega)
 have h2 : N / 2 ^ v ≤ N := Nat.div_le_self _ _
 have h3 : (BitVec.ofInt (IntKind.bits .u32) ((N / 2 ^ v : Nat) : Int)).toNat = N / 2 ^ v := by
  rw [BitVec.ofInt_natCast, BitVec.toNat_ofNat]
  exact Nat.mod_eq_of_lt (by show N / 2 ^ v < 2 ^ 32; omega)
 have h4 : (BitVec.ofInt (IntKind.bits .u32) (1 : Int)).toNat = 1 := by decide
 rw [h1, fdiv_pow, BitVec.toNat_and, h3, h4, Nat.and_one_is_mod, Nat.testBit_eq_decide_div_mod_eq]
 have h5 := Nat.mod_two_eq_zero_or_one (N / 2 ^ v)
 rcases h5 with h5 | h5 <;> rw [h5] <;> decide

theorem bit_one {N v : Nat} (hN : N < 65536) (hv : v < 16) : (IntKind.wrap .u32 (((BitVec.ofInt (IntKind.bits .u32) (Int.fdiv (N : Int) (2 ^ (min v (IntKind.bits .u32)))) &&& BitVec.ofInt (IntKind.bits .u32) (1 : Int)).toNat : Nat) : Int) == (1 : Int)) = N.testBit v := by
 rw [bit_val hN hv]; cases N.testBit v <;> rfl

theorem bit_zero {N v : Nat} (hN : N < 65536) (hv : v < 16) : (IntKind.wrap .u32 (((BitVec.ofInt (IntKind.bits .u32) (Int.fdiv (N : Int) (2 ^ (min v (IntKind.bits .u32)))) &&& BitVec.ofInt (IntKind.bits .u32) (1 : Int)).toNat : Nat) : Int) == (0 : Int)) = !(N.testBit v) := by
 rw [bit_val hN hv]; cases N.testBit v <;> rfl

theorem ofInt_bit {N : Nat} (hN : N < 65536) (i : Nat) : (BitVec.ofInt (IntKind.bits .u32) (N : Int)).toNat.testBit i = N.testBit i := by
 rw [BitVec.ofInt_natCast, BitVec.toNat_ofNat, Nat.mod_eq_of_lt (by show N < 2 ^ 32; omega)]

theorem small_of {K : Nat} (h : ∀ i, 16 ≤ i → K.testBit i = false) : K < 65536 := Nat.lt_pow_two_of_testBit (n := 16) K h

theorem big_bit {N i : Nat} (hN : N < 65536) (hi : 16 ≤ i) : N.testBit i = false := Nat.testBit_lt_two_pow (Nat.lt_of_lt_of_le hN (Nat.pow_le_pow_right (n := 2) (by omega) hi))

theorem or_val {N M : Nat} (hN : N < 65536) (hM : M < 65536) : ∃ K : Nat, IntKind.wrap .u32 (((BitVec.ofInt (IntKind.bits .u32) (N : Int) ||| BitVec.ofInt (IntKind.bits .u32) (M : Int)).toNat : Nat) : Int) = (K : Int) ∧ K < 65536 ∧ ∀ i, K.testBit i = (N.testBit i || M.testBit i) := by
 have hb : ∀ i, (BitVec.ofInt (IntKind.bits .u32) (N : Int) ||| BitVec.ofInt (IntKind.bits .u32) (M : Int)).toNat.testBit i = (N.testBit i || M.testBit i) := fun i => by
  rw [BitVec.toNat_or, Nat.testBit_or, ofInt_bit hN, ofInt_bit hM]
 have hs := small_of (K := (BitVec.ofInt (IntKind.bits .u32) (N : Int) ||| BitVec.ofInt (IntKind.bits .u32) (M : Int)).toNat) fun i hi => by rw [hb, big_bit hN hi, big_bit hM hi]; rfl
 exact ⟨_, u32_in _ (by omega), hs, hb⟩

theorem andNot_val {N M : Nat} (hN : N < 65536) (hM : M < 65536) : ∃ K : Nat, IntKind.wrap .u32 (((BitVec.ofInt (IntKind.bits .u32) (N : Int) &&& ~~~(BitVec.ofInt (IntKind.bits .u32) (M : Int))).toNat : Nat) : Int) = (K : Int) ∧ K < 65536 ∧ ∀ i, K.testBit i = (N.testBit i && !(M.testBit i)) := by
 have hb : ∀ i, (BitVec.ofInt (IntKind.bits .u32) (N : Int) &&& ~~~(BitVec.ofInt (IntKind.bits .u32) (M : Int))).toNat.testBit i = (N.testBit i && !(M.testBit i)) := fun i => by
  rw [BitVec.toNat_and, Nat.testBit_and, ofInt_bit hN]
  by_cases hi : 16 ≤ i
  ·rw [big_bit hN hi]; rfl
  ·have h2 : (~~~(BitVec.ofInt (IntKind.bits .u32) (M : Int))).toNat.testBit i = !((BitVec.ofInt (IntKind.bits .u32) (M : Int)).toNat.testBit i) := by
    show (~~~(BitVec.ofInt (IntKind.bits .u32) (M : Int))).getLsbD i = _
    rw [BitVec.getLsbD_not]
    have : decide (i < IntKind.bits .u32) = true := decide_eq_true (by show i < 32; omega)
    rw [this, Bool.true_and]; rfl
   rw [h2, ofInt_bit hM]
 have hs := small_of (K := (BitVec.ofInt (IntKind.bits .u32) (N : Int) &&& ~~~(BitVec.ofInt (IntKind.bits .u32) (M : Int))).toNat) fun i hi => by rw [hb, big_bit hN hi]; rfl
 exact ⟨_, u32_in _ (by omega), hs, hb⟩

theorem pow_val {v : Nat} (hv : v < 16) : IntKind.wrap .u32 ((1 : Int) * 2 ^ (min v (IntKind.bits .u32))) = ((2 ^ v : Nat) : Int) ∧ 2 ^ v < 65536 := by
 have h1 : min v (IntKind.bits .u32) = v := Nat.min_eq_left (by show v ≤ 32; omega)
 have h2 : 2 ^ v < 2 ^ 16 := Nat.pow_lt_pow_right (by omega) hv
 have h : ((2 ^ v : Nat) : Int) = (2 : Int) ^ v := by simp
 rw [h1, Int.one_mul, ← h]
 have h3 : 2 ^ v < 65536 := h2
 generalize 2 ^ v = q at h3
 exact ⟨u32_in _ (by omega), h3⟩

def Bs (x : Int) (l : List Bool) : Prop := l.length ≤ 16 ∧ ∃ N : Nat, x = (N : Int) ∧ N < 65536 ∧ ∀ v, N.testBit v = l.getD v false

theorem getD_out {l : List Bool} {v : Nat} (h : l.length ≤ v) : l.getD v false = false := by
 rw [List.getD_eq_getElem?_getD, List.getElem?_eq_none h]; rfl

theorem list_ext {l m : List Bool} (hl : l.length = m.length) (h : ∀ v, v < l.length → l.getD v false = m.getD v false) : l = m := by
 refine List.ext_getElem hl fun i h1 h2 => ?_
 have := h i h1
 simpa [List.getD_eq_getElem?_getD, h1, h2] using this

theorem Bs.inj {x y : Int} {l : List Bool} (h : Bs x l) (h' : Bs y l) : x = y := by
 obtain ⟨_, N, e, _, hb⟩ := h
 obtain ⟨_, N', e', _, hb'⟩ := h'
 have : N = N' := Nat.eq_of_testBit_eq fun i => by rw [hb, hb']
 rw [e, e', this]

theorem Bs.zero {n : Nat} (hn : n ≤ 16) : Bs 0 (List.replicate n false) := ⟨by simpa using hn, 0, rfl, by omega, fun v => by
 rw [Nat.zero_testBit, List.getD_eq_getElem?_getD, List.getElem?_replicate]; split <;> rfl⟩

theorem Bs.set {x : Int} {l : List Bool} (h : Bs x l) {v : Nat} (hv : v < l.length) : Bs (IntKind.wrap .u32 (((BitVec.ofInt (IntKind.bits .u32) x ||| BitVec.ofInt (IntKind.bits .u32) (IntKind.wrap .u32 ((1 : Int) * 2 ^ (min v (IntKind.bits .u32))))).toNat : Nat) : Int)) (l.set v true) := by
 obtain ⟨hl, N, rfl, hN, hb⟩ := h
 obtain ⟨e1, e2⟩ := pow_val (v := v) (by omega)
 rw [e1]
 obtain ⟨K, e3, e4, e5⟩ := or_val hN e2
 refine ⟨by simpa using hl, K, e3, e4, fun i => ?_⟩
 rw [e5, hb, Nat.testBit_two_pow]
 by_cases hi : v = i
 ·subst hi
  simp [List.getD_eq_getElem?_getD, hv]
 ·simp [List.getD_eq_getElem?_getD, hi, List.getElem?_set_ne hi]

def orL (l m : List Bool) : List Bool := (List.range l.length).map fun i => l.getD i false || m.getD i false
def subL (l m : List Bool) : List Bool := (List.range l.length).map fun i => l.getD i false && !(m.getD i false)

theorem orL_len (l m : List Bool) : (orL l m).length = l.length := by simp [orL]
theorem subL_len (l m : List Bool) : (subL l m).length = l.length := by simp [subL]
theorem orL_get {l m : List Bool} {v : Nat} (h : v < l.length) : (orL l m).getD v false = (l.getD v false || m.getD v false) := by
 unfold orL; simp [List.getD_eq_getElem?_getD, h]
theorem subL_get (l m : List Bool) (v : Nat) : (subL l m).getD v false = (l.getD v false && !(m.getD v false)) := by
 by_cases h : v < l.length
 ·unfold subL; simp [List.getD_eq_getElem?_getD, h]
 ·rw [getD_out (by rw [subL_len]; omega), getD_out (l := l) (by omega)]; rfl

theorem Bs.or {x y : Int} {l m : List Bool} (h : Bs x l) (h' : Bs y m) (hl : l.length = m.length) : Bs (IntKind.wrap .u32 (((BitVec.ofInt (IntKind.bits .u32) x ||| BitVec.ofInt (IntKind.bits .u32) y).toNat : Nat) : Int)) (orL l m) := by
 obtain ⟨hl1, N, rfl, hN, hb⟩ := h
 obtain ⟨hl2, M, rfl, hM, hb'⟩ := h'
 obtain ⟨K, e3, e4, e5⟩ := or_val hN hM
 refine ⟨by rw [orL_len]; exact hl1, K, e3, e4, fun i => ?_⟩
 rw [e5, hb, hb']
 by_cases hi : i < l.length
 ·rw [orL_get hi]
 ·rw [getD_out (l := l) (by omega), getD_out (l := m) (by omega), getD_out (by rw [orL_len]; omega)]; rfl

theorem Bs.sub {x y : Int} {l m : List Bool} (h : Bs x l) (h' : Bs y m) : Bs (IntKind.wrap .u32 (((BitVec.ofInt (IntKind.bits .u32) x &&& ~~~(BitVec.ofInt (IntKind.bits .u32) y)).toNat : Nat) : Int)) (subL l m) := by
 obtain ⟨hl1, N, rfl, hN, hb⟩ := h
 obtain ⟨hl2, M, rfl, hM, hb'⟩ := h'
 obtain ⟨K, e3, e4, e5⟩ := andNot_val hN hM
 exact ⟨by rw [subL_len]; exact hl1, K, e3, e4, fun i => by rw [e5, hb, hb', subL_get]⟩

theorem Bs.bit {x : Int} {l : List Bool} (h : Bs x l) {v : Nat} (hv : v < 16) : (IntKind.wrap .u32 (((BitVec.ofInt (IntKind.bits .u32) (Int.fdiv x (2 ^ (min v (IntKind.bits .u32)))) &&& BitVec.ofInt (IntKind.bits .u32) (1 : Int)).toNat : Nat) : Int) == (1 : Int)) = l.getD v false := by
 obtain ⟨hl, N, rfl, hN, hb⟩ := h
 rw [bit_one hN hv, hb]

theorem Bs.bit0 {x : Int} {l : List Bool} (h : Bs x l) {v : Nat} (hv : v < 16) : (IntKind.wrap .u32 (((BitVec.ofInt (IntKind.bits .u32) (Int.fdiv x (2 ^ (min v (IntKind.bits .u32)))) &&& BitVec.ofInt (IntKind.bits .u32) (1 : Int)).toNat : Nat) : Int) == (0 : Int)) = !(l.getD v false) := by
 obtain ⟨hl, N, rfl, hN, hb⟩ := h
 rw [bit_zero hN hv, hb]

theorem Bs.eq0 {x : Int} {l : List Bool} (h : Bs x l) : (x == 0) = true ↔ ∀ v, v < l.length → l.getD v false = false := by
 obtain ⟨hl, N, rfl, hN, hb⟩ := h
 constructor
 ·intro e v _
  have : N = 0 := by simpa using e
  subst this
  rw [← hb, Nat.zero_testBit]
 ·intro hz
  have : N = 0 := Nat.eq_of_testBit_eq fun i => by
   rw [Nat.zero_testBit, hb]
   by_cases hi : i < l.length
   ·exact hz i hi
   ·exact getD_out (by omega)
  subst this; rfl

theorem Bs.all {n : Nat} (hn : n ≤ 16) (h1 : 1 ≤ n) : Bs (wsub .u32 (IntKind.wrap .u32 ((1 : Int) * 2 ^ (min n (IntKind.bits .u32)))) 1) (List.replicate n true) := by
 have e : wsub .u32 (IntKind.wrap .u32 ((1 : Int) * 2 ^ (min n (IntKind.bits .u32)))) 1 = ((2 ^ n - 1 : Nat) : Int) := by
  have e1 : min n (IntKind.bits .u32) = n := Nat.min_eq_left (by show n ≤ 32; omega)
  have h2 : 2 ^ n ≤ 2 ^ 16 := Nat.pow_le_pow_right (by omega) hn
  have h3 : 0 < 2 ^ n := Nat.pow_pos (by omega)
  have h : ((2 ^ n : Nat) : Int) = (2 : Int) ^ n := by simp
  rw [e1, Int.one_mul, ← h, u32_in _ (by omega)]
  show IntKind.wrap .u32 (((2 ^ n : Nat) : Int) - 1) = _
  rw [u32_in _ (by omega)]
  omega
 rw [e]
 refine ⟨by simpa using hn, 2 ^ n - 1, rfl, ?_, fun v => ?_⟩
 ·have h2 : 2 ^ n ≤ 2 ^ 16 := Nat.pow_le_pow_right (by omega) hn
  omega
 ·rw [Nat.testBit_two_pow_sub_one, List.getD_eq_getElem?_getD, List.getElem?_replicate]
  by_cases h : v < n <;> simp [h]

def cnt : List Bool → Nat
 | [] => 0
 | b :: l => (if b then 1 else 0) + cnt l

theorem cnt_le : ∀ {l m : List Bool}, l.length = m.length → (∀ v, v < l.length → l.getD v false = true → m.getD v false = true) → cnt l ≤ cnt m
 | [], [], _, _ => Nat.le_refl _
 | a :: l, b :: m, hl, h => by
  have h1 := cnt_le (l := l) (m := m) (by simpa using hl) fun v hv hx => by simpa using h (v + 1) (by simpa using hv) (by simpa using hx)
  have h0 := h 0 (by simp)
  simp only [cnt]
  cases a <;> cases b <;> simp at h0 ⊢ <;> omega
 | [], _ :: _, hl, _ => by simp at hl
 | _ :: _, [], hl, _ => by simp at hl

theorem cnt_lt : ∀ {l m : List Bool}, l.length = m.length → (∀ v, v < l.length → l.getD v false = true → m.getD v false = true) → (∃ v, v < l.length ∧ l.getD v false = false ∧ m.getD v false = true) → cnt l < cnt m
 | [], [], _, _, ⟨v, hv, _⟩ => by simp at hv
 | a :: l, b :: m, hl, h, ⟨v, hv, h1, h2⟩ => by
  have hl' : l.length = m.length := by simpa using hl
  have hs : ∀ v, v < l.length → l.getD v false = true → m.getD v false = true := fun v hv hx => by simpa using h (v + 1) (by simpa using hv) (by simpa using hx)
  have h0 := h 0 (by simp)
  cases v with
  | zero =>
   have hle := cnt_le hl' hs
   simp only [cnt]
   simp at h1 h2
   subst h1 h2
   simp; omega
  | succ v =>
   have hlt := cnt_lt hl' hs ⟨v, by simpa using hv, by simpa using h1, by simpa using h2⟩
   simp only [cnt]
   cases a <;> cases b <;> simp at h0 ⊢ <;> omega
 | [], _ :: _, hl, _, _ => by simp at hl
 | _ :: _, [], hl, _, _ => by simp at hl

def riseB (xs : List Int) (n : Int) (i : Nat) : Bool := (decide (xs.getD i 0 ≥ 0) && decide (xs.getD i 0 ≤ wsub .i64 n 1)) && !(decide ((i : Int) > 0) && decide (xs.getD i 0 ≤ xs.getD (i - 1) 0))

theorem implSet {xs : List Int} {n : Int} (h : xs.length ≤ 1048576) : impl_isSet xs n = some (allN (riseB xs n) xs.length 0) := by
 have := rounds_all (f := impl_isSet_B1 xs n) (fun i => ((i : Nat) : Int)) (riseB xs n) (Sum.inl ()) (Sum.inr ()) (n := xs.length) (fun i hi => by
  unfold impl_isSet_B1 riseB
  simp only [lenI, ltN hi, cond_true, Int.toNat_natCast, within64, Option.bind_some, nextN hi (show xs.length ≤ 4294967296 by omega)]
  rw [guard_pos (idxN hi)]
  cases (decide (xs.getD i 0 ≥ 0) && decide (xs.getD i 0 ≤ wsub .i64 n 1)) with
  | false => rfl
  | true =>
   by_cases h0 : i = 0
   ·subst h0; rfl
   ·have e : wsub .i64 ((i : Nat) : Int) 1 = ((i - 1 : Nat) : Int) := by rw [wsubI (by omega)]; omega
    have d : decide (((i : Nat) : Int) > 0) = true := decide_eq_true (by omega)
    simp only [Bool.not_true, cond_false, d, cond_true, e, guard_pos (idxN (show i - 1 < xs.length by omega)), Int.toNat_natCast, Option.bind_some, Bool.true_and]
    cases decide (xs.getD i 0 ≤ xs.getD (i - 1) 0) <;> rfl) (by
  unfold impl_isSet_B1
  simp only [lenI, geN (Nat.le_refl _), cond_false]) xs.length 0 (by omega)
 simp only [Int.natCast_zero] at this
 unfold impl_isSet
 rw [this]
 cases allN (riseB xs n) xs.length 0 <;> rfl

end Go.Proofs


/-
 Valid games; what a player reaches.
-/
namespace Go.Proofs
open Go.Ide Go.IntWalk

theorem rounds_find2 {τ ρ : Type} {f : τ → Option (τ ⊕ ρ)} (mk : Nat → τ) (p : Nat → Bool) (a : ρ) (b : Nat → ρ) {n : Nat}
  (hstep : ∀ i, i < n → f (mk i) = some (bif p i then .inl (mk (i + 1)) else .inr (b i))) (hend : f (mk n) = some (.inr a)) : ∀ (k i : Nat), i + k = n → ∃ j, rounds f (mk i) = some (bif allN p k i then a else b j)
 | 0, i, hi => by
  have : i = n := by omega
  subst this
  rw [rounds_eq, hend]
  exact ⟨0, rfl⟩
 | k + 1, i, hi => by
  rw [rounds_eq, hstep i (by omega)]
  simp only [allN]
  cases p i with
  | true => simp only [cond_true, Bool.true_and]; exact rounds_find2 mk p a b hstep hend k (i + 1) (by omega)
  | false => exact ⟨i, rfl⟩

def okMv (xs : List Int) (n : Int) : Bool := !(decide (lenI xs < 1)) && allN (riseB xs n) xs.length 0

def okG (O R : List Int) (M : List (List Int)) : Bool :=
 (decide (lenI O ≥ 1) && decide (lenI O ≤ 16)) && ((lenI R == lenI O) && ((lenI M == lenI O) && (allIn O 0 1 && (allIn R 0 8 && allN (fun i => okMv (M.getD i []) (lenI O)) M.length 0))))

theorem implGame {O R : List Int} {M : List (List Int)} (hM : M.length ≤ 1048576) (hh : ∀ y ∈ M, y.length ≤ 1048576) (hO : O.length ≤ 1048576) (hR : R.length ≤ 1048576) : impl_ValidGame (O, R, M) = some (okG O R M) := by
 unfold impl_ValidGame okG
 simp only [within64, Option.bind_some, areWithin64 (xs := O) (by omega), areWithin64 (xs := R) (by omega)]
 obtain ⟨j, this⟩ := rounds_find2 (f := slices_IndexFunc_____int64___int64_clo1_impl_ValidGame_1_B1 M (lenI O)) (fun i => ((i : Nat) : Int)) (fun i => okMv (M.getD i []) (lenI O)) (Sum.inl ()) (fun i => Sum.inr ((i : Nat) : Int)) (n := M.length) (fun i hi => by
  have hl := hh _ (mem_getD hi [])
  unfold slices_IndexFunc_____int64___int64_clo1_impl_ValidGame_1_B1 impl_ValidGame_1 okMv
  simp only [implSet (n := lenI O) hl, Option.bind_some, Int.toNat_natCast, nextN hi (show M.length ≤ 4294967296 by omega)]
  simp only [lenI, ltN hi, cond_true]
  rw [guard_pos (idxN hi)]
  by_cases h0 : (M.getD i []).length = 0
  ·have e1 : (((M.getD i []).length : Int) == 0) = true := by rw [h0]; rfl
   have e2 : decide (((M.getD i []).length : Int) < 1) = true := decide_eq_true (by omega)
   simp only [e1, e2, cond_true, Option.bind_some, Bool.not_true, Bool.false_and, cond_false]
  ·have e1 : (((M.getD i []).length : Int) == 0) = false := by simp only [beq_eq_false_iff_ne, ne_eq]; omega
   have e2 : decide (((M.getD i []).length : Int) < 1) = false := decide_eq_false (by omega)
   simp only [e1, e2, cond_false, Option.bind_some, Bool.not_false, Bool.true_and]
   cases allN (riseB (M.getD i []) (O.length : Int)) (M.getD i []).length 0 <;> rfl) (by
  unfold slices_IndexFunc_____int64___int64_clo1_impl_ValidGame_1_B1
  simp only [lenI, geN (Nat.le_refl _), cond_false]) M.length 0 (by omega)
 simp only [Int.natCast_zero] at this
 unfold slices_ContainsFunc_____int64___int64_clo1_impl_ValidGame_1 slices_IndexFunc_____int64___int64_clo1_impl_ValidGame_1
 rw [this]
 cases (decide (lenI O ≥ 1) && decide (lenI O ≤ 16)) with
 | false => rfl
 | true =>
  simp only [Bool.not_true, cond_false, bne, Bool.true_and]
  cases (lenI R == lenI O) with
  | false => rfl
  | true =>
   simp only [Bool.not_true, cond_false, Bool.true_and]
   cases (lenI M == lenI O) with
   | false => rfl
   | true =>
    simp only [Bool.not_true, cond_false, Bool.true_and]
    cases allIn O 0 1 with
    | false => rfl
    | true =>
     simp only [Bool.not_true, cond_false, Bool.true_and, Option.bind_some]
     cases allIn R 0 8 with
     | false => rfl
     | true =>
      simp only [Bool.not_true, cond_false, Bool.true_and]
      cases allN (fun i => okMv (M.getD i []) (lenI O)) M.length 0 with
      | true => rfl
      | false =>
       simp only [cond_false, Option.bind_some, ge_iff_le]
       rw [decide_eq_true (Int.natCast_nonneg j)]
       rfl

theorem allN_and2 (p q : Nat → Bool) : ∀ k i, allN (fun i => p i && q i) k i = (allN p k i && allN q k i)
 | 0, _ => rfl
 | k + 1, i => by
  simp only [allN, allN_and2 p q k (i + 1)]
  cases p i <;> cases q i <;> cases allN p k (i + 1) <;> cases allN q k (i + 1) <;> rfl

theorem specGame {O R : List Int} {M : List (List Int)} (hM : M.length ≤ 1048576) (hh : ∀ y ∈ M, y.length ≤ 1048576) : spec_l07Game (O, R, M) = some (okG O R M) := by
 unfold spec_l07Game okG
 by_cases h1 : lenI O < 1
 ·have e1 : decide (lenI O < (1 : Int)) = true := decide_eq_true h1
  have e2 : decide (lenI O ≥ (1 : Int)) = false := decide_eq_false (by omega)
  simp only [e1, e2, cond_true, Bool.false_and, Option.bind_some]
 ·have e1 : decide (lenI O < (1 : Int)) = false := decide_eq_false h1
  have e2 : decide (lenI O ≥ (1 : Int)) = true := decide_eq_true (by omega)
  simp only [e1, e2, cond_false, Bool.true_and]
  by_cases h2 : lenI O > 16
  ·have e3 : decide (lenI O > (16 : Int)) = true := decide_eq_true h2
   have e4 : decide (lenI O ≤ (16 : Int)) = false := decide_eq_false (by omega)
   simp only [e3, e4, cond_true, Bool.false_and, Option.bind_some]
  ·have e3 : decide (lenI O > (16 : Int)) = false := decide_eq_false h2
   have e4 : decide (lenI O ≤ (16 : Int)) = true := decide_eq_true (by omega)
   simp only [e3, e4, cond_false, Bool.true_and, bne]
   cases h3 : (lenI R == lenI O) with
   | false => rfl
   | true =>
    cases h4 : (lenI M == lenI O) with
    | false => rfl
    | true =>
     simp only [Bool.not_true, cond_false, Option.bind_some, Bool.true_and]
     have l1 : R.length = O.length := by have := eq_of_beq h3; simp only [lenI] at this; omega
     have l2 : M.length = O.length := by have := eq_of_beq h4; simp only [lenI] at this; omega
     have l3 : O.length ≤ 16 := by simp only [lenI] at h2; omega
     have := rounds_all (f := spec_l07Game_B2 (O, R, M)) (fun i => ((i : Nat) : Int)) (fun i => (decide (O.getD i 0 ≥ 0) && decide (O.getD i 0 ≤ 1)) && ((decide (R.getD i 0 ≥ 0) && decide (R.getD i 0 ≤ 8)) && okMv (M.getD i []) (lenI O))) (Sum.inl ()) (Sum.inr ()) (n := O.length) (fun i hi => by
      have hl := hh _ (mem_getD (show i < M.length by omega) [])
      have hin := rounds_all (f := spec_l07Game_B1 (O, R, M) ((i : Nat) : Int)) (fun i => ((i : Nat) : Int)) (riseB (M.getD i []) (lenI O)) (Sum.inl ()) (Sum.inr ()) (n := (M.getD i []).length) (fun k hk => by
       unfold spec_l07Game_B1 riseB
       simp only [Int.toNat_natCast, lenI, ltN hk, cond_true, in64, Option.bind_some, nextN hk (show (M.getD i []).length ≤ 4294967296 by omega)]
       rw [guard_pos (idxN hk)]
       cases (decide ((M.getD i []).getD k 0 ≥ 0) && decide ((M.getD i []).getD k 0 ≤ wsub .i64 (O.length : Int) 1)) with
       | false => rfl
       | true =>
        by_cases h0 : k = 0
        ·subst h0; rfl
        ·have e : wsub .i64 ((k : Nat) : Int) 1 = ((k - 1 : Nat) : Int) := by rw [wsubI (by omega)]; omega
         have d : decide (((k : Nat) : Int) > 0) = true := decide_eq_true (by omega)
         simp only [Bool.not_true, cond_false, d, cond_true, e, guard_pos (idxN (show k - 1 < (M.getD i []).length by omega)), Int.toNat_natCast, Option.bind_some, Bool.true_and]
         cases decide ((M.getD i []).getD k 0 ≤ (M.getD i []).getD (k - 1) 0) <;> rfl) (by
       unfold spec_l07Game_B1
       simp only [Int.toNat_natCast, lenI, geN (Nat.le_refl _), cond_false]) (M.getD i []).length 0 (by omega)
      simp only [Int.natCast_zero] at hin
      have jo : (0 : Int) ≤ (i : Int) ∧ (i : Int) < lenI O := idxN hi
      have jr : (0 : Int) ≤ (i : Int) ∧ (i : Int) < lenI R := idxN (by omega)
      have jm : (0 : Int) ≤ (i : Int) ∧ (i : Int) < lenI M := idxN (by omega)
      unfold spec_l07Game_B2 okMv
      simp only [Int.toNat_natCast, guard_pos jo, guard_pos jr, guard_pos jm, in64, Option.bind_some, hin]
      simp only [lenI, ltN hi, cond_true, nextN hi (show O.length ≤ 4294967296 by omega)]
      cases (decide (O.getD i 0 ≥ 0) && decide (O.getD i 0 ≤ 1)) with
      | false => rfl
      | true =>
       cases (decide (R.getD i 0 ≥ 0) && decide (R.getD i 0 ≤ 8)) with
       | false => rfl
       | true =>
        cases decide (((M.getD i []).length : Int) < 1) with
        | true => rfl
        | false =>
         simp only [Bool.not_true, Bool.not_false, cond_false, Option.bind_some, Bool.true_and]
         cases allN (riseB (M.getD i []) (O.length : Int)) (M.getD i []).length 0 <;> rfl) (by
      unfold spec_l07Game_B2
      simp only [lenI, geN (Nat.le_refl _), cond_false]) O.length 0 (by omega)
     simp only [Int.natCast_zero] at this
     rw [allN_and2 (fun i => decide (O.getD i 0 ≥ 0) && decide (O.getD i 0 ≤ 1)) (fun i => (decide (R.getD i 0 ≥ 0) && decide (R.getD i 0 ≤ 8)) && okMv (M.getD i []) (lenI O)), allN_and2 (fun i => decide (R.getD i 0 ≥ 0) && decide (R.getD i 0 ≤ 8)) (fun i => okMv (M.getD i []) (lenI O))] at this
     have eO := allN_in O 0 1
     have eR := allN_in R 0 8
     rw [l1] at eR
     rw [eO, eR] at this
     rw [this, l2]
     cases allIn O 0 1 <;> cases allIn R 0 8 <;> cases allN (fun i => okMv (M.getD i []) (lenI O)) O.length 0 <;> rfl

structure Game (n : Nat) (O R : List Int) (M : List (List Int)) : Prop where
 n1 : 1 ≤ n
 n2 : n ≤ 16
 lo : O.length = n
 lr : R.length = n
 lm : M.length = n
 ow : ∀ v, v < n → O.getD v 0 = 0 ∨ O.getD v 0 = 1
 rk : ∀ v, v < n → ∃ r : Nat, R.getD v 0 = (r : Int) ∧ r ≤ 8
 mv : ∀ v, v < n → ∀ k, k < (M.getD v []).length → ∃ q : Nat, (M.getD v []).getD k 0 = (q : Int) ∧ q < n
 ml : ∀ v, v < n → (M.getD v []).length ≤ 1048576

theorem game_of {O R : List Int} {M : List (List Int)} (hh : ∀ y ∈ M, y.length ≤ 1048576) (h : okG O R M = true) : Game O.length O R M := by
 unfold okG at h
 simp only [Bool.and_eq_true, decide_eq_true_eq, beq_iff_eq, lenI] at h
 obtain ⟨⟨h1, h2⟩, h3, h4, h5, h6, h7⟩ := h
 refine ⟨by omega, by omega, rfl, by omega, by omega, fun v hv => ?_, fun v hv => ?_, fun v hv k hk => ?_, fun v hv => hh _ (mem_getD (by omega) [])⟩
 ·have := allIn_iff.1 h5 v hv; omega
 ·have := allIn_iff.1 h6 v (by omega)
  exact ⟨(R.getD v 0).toNat, by omega, by omega⟩
 ·have := allN_iff.1 h7 v (by omega) (by omega)
  unfold okMv at this
  rw [Bool.and_eq_true] at this
  have := allN_iff.1 this.2 k (by omega) (by omega)
  unfold riseB at this
  simp only [Bool.and_eq_true, decide_eq_true_eq] at this
  have h8 := this.1
  rw [wsubI (by omega)] at h8
  exact ⟨((M.getD v []).getD k 0).toNat, by omega, by omega⟩

end Go.Proofs


/-
 What a player reaches; ReachOf.
-/
namespace Go.Proofs
open Go.Ide Go.IntWalk

section
variable {n : Nat} {O R : List Int} {M : List (List Int)}

theorem drawB1 (g : Game n O R M) {ins out : List Bool} {a x : Int} (ha : Bs a ins) (hx : Bs x out) (l1 : ins.length = n) (l2 : out.length = n) {v : Nat} (hv : v < n) (c1 c2 : Bool) :
  ∃ r, rounds (spec_l07Draw_B1 (O, R, M) ins (c1, (v : Int), out)) (false, true, (0 : Int)) = some r ∧ rounds (impl_Game_reach_B1 (O, R, M) a (x, c2, (v : Int))) (false, true, (0 : Int)) = some r := by
 have hml := g.ml v hv
 have n2 := g.n2
 obtain ⟨r, r', h1, h2, h3⟩ := rounds_rel (f := spec_l07Draw_B1 (O, R, M) ins (c1, (v : Int), out)) (g := impl_Game_reach_B1 (O, R, M) a (x, c2, (v : Int))) (fun m s t => ∃ (k : Nat) (p q : Bool), m + k = (M.getD v []).length ∧ s = (p, q, (k : Int)) ∧ t = (p, q, (k : Int))) (fun r r' => r = r') (by
  rintro m s t ⟨k, p, q, hk, rfl, rfl⟩
  by_cases hlt : k < (M.getD v []).length
  ·obtain ⟨u, hu, hun⟩ := g.mv v hv k hlt
   have b1 := ha.bit (v := u) (by omega)
   have b2 := hx.bit (v := u) (by omega)
   have j1 : (0 : Int) ≤ (u : Int) ∧ (u : Int) < lenI ins := idxN (by omega)
   have j2 : (0 : Int) ≤ (u : Int) ∧ (u : Int) < lenI out := idxN (by omega)
   have j3 : (0 : Int) ≤ (u : Int) := Int.natCast_nonneg _
   have j4 : (0 : Int) ≤ (k : Int) ∧ (k : Int) < lenI (M.getD v []) := idxN hlt
   unfold spec_l07Draw_B1 impl_Game_reach_B1
   simp only [Int.toNat_natCast, guard_pos j4, Option.bind_some, hu, guard_pos j1, guard_pos j2, guard_pos j3, b1, b2]
   simp only [lenI, ltN hlt, cond_true, nextN hlt (show (M.getD v []).length ≤ 4294967296 by omega)]
   cases ins.getD u false with
   | false => exact .inl ⟨m - 1, _, _, by omega, rfl, rfl, k + 1, p, q, by omega, rfl, rfl⟩
   | true =>
    cases p <;> cases q <;> exact .inl ⟨m - 1, _, _, by omega, rfl, rfl, k + 1, _, _, by omega, rfl, rfl⟩
  ·unfold spec_l07Draw_B1 impl_Game_reach_B1
   simp only [Int.toNat_natCast, lenI, geN (show (M.getD v []).length ≤ k by omega), cond_false]
   exact .inr ⟨_, _, rfl, rfl, rfl⟩) (M.getD v []).length (false, true, (0 : Int)) (false, true, (0 : Int)) ⟨0, false, true, by omega, rfl, rfl⟩
 exact ⟨r, h1, by rw [h2, h3]⟩

structure More (n : Nat) (ins out0 out : List Bool) (ch : Bool) : Prop where
 len : out.length = n
 sub : ∀ u, u < n → out0.getD u false = true → out.getD u false = true
 inn : ∀ u, u < n → out.getD u false = true → out0.getD u false = true ∨ ins.getD u false = true
 new : ch = true → ∃ u, u < n ∧ out0.getD u false = false ∧ out.getD u false = true

theorem drawB2 (g : Game n O R M) {ins out0 : List Bool} {a x0 : Int} (ha : Bs a ins) (hx : Bs x0 out0) (l1 : ins.length = n) (l2 : out0.length = n) (p : Int) (c0 : Bool) :
  ∃ ch out x, rounds (spec_l07Draw_B2 (O, R, M) ins p (c0, out0)) (false, (0 : Int), out0) = some (ch, out) ∧ rounds (impl_Game_reach_B2 (O, R, M) a p) (x0, false, (0 : Int)) = some (x, ch) ∧ Bs x out ∧ More n ins out0 out ch := by
 have n2 := g.n2
 have lo := g.lo
 have lm := g.lm
 obtain ⟨r, r', h1, h2, ch, out, x, e1, e2, h3, h4⟩ := rounds_rel (f := spec_l07Draw_B2 (O, R, M) ins p (c0, out0)) (g := impl_Game_reach_B2 (O, R, M) a p)
  (fun m s t => ∃ (v : Nat) (ch : Bool) (out : List Bool) (x : Int), m + v = n ∧ s = (ch, (v : Int), out) ∧ t = (x, ch, (v : Int)) ∧ Bs x out ∧ More n ins out0 out ch)
  (fun r r' => ∃ (ch : Bool) (out : List Bool) (x : Int), r = (ch, out) ∧ r' = (x, ch) ∧ Bs x out ∧ More n ins out0 out ch) (by
  rintro m s t ⟨v, ch, out, x, hm, rfl, rfl, hb, hmo⟩
  have hol := hmo.len
  by_cases hv : v < n
  ·obtain ⟨r, h1, h2⟩ := drawB1 g ha hb l1 hol hv ch ch
   have b1 := ha.bit0 (v := v) (by omega)
   have b2 := hb.bit (v := v) (by omega)
   have j1 : (0 : Int) ≤ (v : Int) ∧ (v : Int) < lenI ins := idxN (by omega)
   have j2 : (0 : Int) ≤ (v : Int) ∧ (v : Int) < lenI out := idxN (by omega)
   have j3 : (0 : Int) ≤ (v : Int) := Int.natCast_nonneg _
   have j4 : (0 : Int) ≤ (v : Int) ∧ (v : Int) < lenI M := idxN (by omega)
   have j5 : (0 : Int) ≤ (v : Int) ∧ (v : Int) < lenI O := idxN (by omega)
   have hset := hb.set (v := v) (by omega)
   have hd1 : decide ((v : Int) < lenI out0) = true := by simp only [lenI]; exact ltN (by omega)
   have hd2 : decide ((v : Int) < lenI M) = true := by simp only [lenI]; exact ltN (by omega)
   have skip : ∃ n' s' t', n' < m ∧ some (Sum.inl ((ch, ((v + 1 : Nat) : Int), out) : Bool × Int × List Bool)) = some (Sum.inl s' : (Bool × Int × List Bool) ⊕ (Bool × List Bool)) ∧ some (Sum.inl ((x, ch, ((v + 1 : Nat) : Int)) : Int × Bool × Int)) = some (Sum.inl t' : (Int × Bool × Int) ⊕ (Int × Bool)) ∧
     ∃ (v : Nat) (ch : Bool) (out : List Bool) (x : Int), n' + v = n ∧ s' = (ch, (v : Int), out) ∧ t' = (x, ch, (v : Int)) ∧ Bs x out ∧ More n ins out0 out ch :=
    ⟨m - 1, _, _, by omega, rfl, rfl, v + 1, ch, out, x, by omega, rfl, rfl, hb, hmo⟩
   unfold spec_l07Draw_B2 impl_Game_reach_B2
   simp only [hd1, hd2, cond_true, Int.toNat_natCast, guard_pos j1, guard_pos j2, guard_pos j3, guard_pos j4, guard_pos j5, b1, b2, Option.bind_some, h1, h2, nextN hv (show n ≤ 4294967296 by omega)]
   cases ho : out.getD v false with
   | true =>
    simp only [cond_true, Option.bind_some]
    cases ins.getD v false <;> exact .inl skip
   | false =>
    cases hi : ins.getD v false with
    | false => exact .inl skip
    | true =>
     simp only [Bool.not_true, cond_false, Option.bind_some]
     have add : ∃ n' s' t', n' < m ∧ some (Sum.inl ((true, ((v + 1 : Nat) : Int), out.set v true) : Bool × Int × List Bool)) = some (Sum.inl s' : (Bool × Int × List Bool) ⊕ (Bool × List Bool)) ∧
       some (Sum.inl ((IntKind.wrap .u32 (((BitVec.ofInt (IntKind.bits .u32) x ||| BitVec.ofInt (IntKind.bits .u32) (IntKind.wrap .u32 ((1 : Int) * 2 ^ (min v (IntKind.bits .u32))))).toNat : Nat) : Int), true, ((v + 1 : Nat) : Int)) : Int × Bool × Int)) = some (Sum.inl t' : (Int × Bool × Int) ⊕ (Int × Bool)) ∧
       ∃ (v : Nat) (ch : Bool) (out : List Bool) (x : Int), n' + v = n ∧ s' = (ch, (v : Int), out) ∧ t' = (x, ch, (v : Int)) ∧ Bs x out ∧ More n ins out0 out ch := by
      refine ⟨m - 1, _, _, by omega, rfl, rfl, v + 1, true, _, _, by omega, rfl, rfl, hset, by simpa using hol, fun u hu h => ?_, fun u hu h => ?_, fun _ => ⟨v, hv, ?_, ?_⟩⟩
      ·by_cases e : v = u
       ·subst e; simp [List.getD_eq_getElem?_getD, hol, hv]
       ·have := hmo.sub u hu h
        simpa [List.getD_eq_getElem?_getD, List.getElem?_set_ne e] using this
      ·by_cases e : v = u
       ·subst e; exact .inr hi
       ·refine hmo.inn u hu ?_
        simpa [List.getD_eq_getElem?_getD, List.getElem?_set_ne e] using h
      ·cases h0 : out0.getD v false with
       | false => rfl
       | true => rw [hmo.sub v hv h0] at ho; cases ho
      ·simp [List.getD_eq_getElem?_getD, hol, hv]
     cases (O.getD v 0 == p) with
     | true =>
      simp only [cond_true]
      cases r.1 with
      | true => exact .inl add
      | false =>
       simp only [cond_false]
       cases (O.getD v 0 != p) with
       | true =>
        simp only [cond_true, Option.bind_some]
        cases r.2 with
        | true => exact .inl add
        | false => exact .inl skip
       | false => exact .inl skip
     | false =>
      simp only [cond_false]
      cases (O.getD v 0 != p) with
      | true =>
       simp only [cond_true, Option.bind_some]
       cases r.2 with
       | true => exact .inl add
       | false => exact .inl skip
      | false => exact .inl skip
  ·have hd1 : decide ((v : Int) < lenI out0) = false := by simp only [lenI]; exact geN (by omega)
   have hd2 : decide ((v : Int) < lenI M) = false := by simp only [lenI]; exact geN (by omega)
   unfold spec_l07Draw_B2 impl_Game_reach_B2
   simp only [hd1, hd2, cond_false]
   exact .inr ⟨_, _, rfl, rfl, ch, out, x, rfl, rfl, hb, hmo⟩) n (false, (0 : Int), out0) (x0, false, (0 : Int)) ⟨0, false, out0, x0, by omega, rfl, rfl, hx, l2, fun _ _ h => h, fun _ _ h => .inl h, fun h => by cases h⟩
 subst e1 e2
 exact ⟨ch, out, x, h1, h2, h3, h4⟩

theorem cnt_len : ∀ l : List Bool, cnt l ≤ l.length
 | [] => Nat.le_refl _
 | b :: l => by
  have := cnt_len l
  simp only [cnt, List.length_cons]
  cases b <;> simp <;> omega

theorem drawSame (g : Game n O R M) {ins set : List Bool} {a x0 : Int} (ha : Bs a ins) (hx : Bs x0 set) (l1 : ins.length = n) (l2 : set.length = n) (p : Int) :
  ∃ out x, spec_l07Draw (O, R, M) ins set p = some out ∧ impl_Game_reach (O, R, M) a x0 p = some x ∧ Bs x out ∧ out.length = n ∧ (∀ u, u < n → set.getD u false = true → out.getD u false = true) ∧ (∀ u, u < n → out.getD u false = true → set.getD u false = true ∨ ins.getD u false = true) := by
 have n2 := g.n2
 obtain ⟨r, r', h1, h2, h3, h4⟩ := rounds_rel (f := spec_l07Draw_B3 (O, R, M) ins p) (g := impl_Game_reach_B3 (O, R, M) a p)
  (fun m s t => ∃ (ch : Bool) (out : List Bool) (x : Int), m = (if ch then n - cnt out + 1 else 0) ∧ s = (ch, out) ∧ t = (x, ch) ∧ Bs x out ∧ More n ins set out false)
  (fun r r' => Bs r' r ∧ More n ins set r false) (by
  rintro m s t ⟨ch, out, x, hm, rfl, rfl, hb, hmo⟩
  cases ch with
  | true =>
   obtain ⟨ch2, out2, x2, e1, e2, e3, e4⟩ := drawB2 g ha hb l1 hmo.len p true
   unfold spec_l07Draw_B3 impl_Game_reach_B3
   simp only [cond_true, e1, e2, Option.bind_some]
   have hlen : out2.length = out.length := by rw [e4.len, hmo.len]
   have hmo2 : More n ins set out2 false := ⟨e4.len, fun u hu h => e4.sub u hu (hmo.sub u hu h), fun u hu h => by
    rcases e4.inn u hu h with h | h
    ·exact hmo.inn u hu h
    ·exact .inr h, fun h => by cases h⟩
   refine .inl ⟨if ch2 then n - cnt out2 + 1 else 0, _, _, ?_, rfl, rfl, ch2, out2, x2, rfl, rfl, rfl, e3, hmo2⟩
   cases ch2 with
   | false => simp at hm ⊢; omega
   | true =>
    obtain ⟨u, hu, q1, q2⟩ := e4.new rfl
    have hlt := cnt_lt (l := out) (m := out2) hlen.symm (fun v hv h => e4.sub v (by rw [← hmo.len]; exact hv) h) ⟨u, by rw [hmo.len]; exact hu, q1, q2⟩
    have := cnt_len out2
    rw [e4.len] at this
    simp at hm ⊢; omega
  | false =>
   unfold spec_l07Draw_B3 impl_Game_reach_B3
   simp only [cond_false]
   exact .inr ⟨_, _, rfl, rfl, hb, hmo⟩) _ (true, set) (x0, true) ⟨true, set, x0, rfl, rfl, rfl, hx, l2, fun _ _ h => h, fun _ _ h => .inl h, fun h => by cases h⟩
 refine ⟨r, r', ?_, ?_, h3, h4.len, h4.sub, h4.inn⟩
 ·unfold spec_l07Draw
  rw [guard_pos (by simp only [appMax]; omega), h1]; rfl
 ·unfold impl_Game_reach
  rw [h2]; rfl

end
end Go.Proofs


/-
 ReachOf.
-/
namespace Go.Proofs
open Go.Ide Go.IntWalk

theorem indexLoop {l : List Bool} (h : l.length ≤ 16) : ∃ r, rounds (impl_indicesOf_B1 l) ((0 : Int), ([] : List Int)) = some r ∧ r.length ≤ 16 := by
 obtain ⟨r, h1, h2⟩ := rounds_inv (f := impl_indicesOf_B1 l) (fun m s => ∃ (k : Nat) (out : List Int), m + k = l.length ∧ s = ((k : Int), out) ∧ out.length ≤ k) (fun r => r.length ≤ 16) (by
  rintro m s ⟨k, out, hm, rfl, ho⟩
  by_cases hk : k < l.length
  ·unfold impl_indicesOf_B1
   simp only [lenI, ltN hk, cond_true, Int.toNat_natCast, nextN hk (show l.length ≤ 4294967296 by omega)]
   rw [guard_pos (idxN hk)]
   cases l.getD k false with
   | true =>
    simp only [cond_true]
    rw [guard_pos (by simp only [List.length_singleton, appMax]; omega)]
    exact .inl ⟨m - 1, _, by omega, rfl, k + 1, _, by omega, rfl, by simp; omega⟩
   | false => exact .inl ⟨m - 1, _, by omega, rfl, k + 1, _, by omega, rfl, by omega⟩
  ·unfold impl_indicesOf_B1
   simp only [lenI, geN (show l.length ≤ k by omega), cond_false]
   exact .inr ⟨_, rfl, by omega⟩) l.length ((0 : Int), []) ⟨0, [], by omega, rfl, by simp⟩
 exact ⟨r, h1, h2⟩

theorem implBits {x : Int} {l : List Bool} (h : Bs x l) : impl_bitsOf x (l.length : Int) = some l := by
 have hl := h.1
 have := loop_to (f := impl_bitsOf_B1 x (l.length : Int)) l false (fun i out hi ho => by
  have j3 : (0 : Int) ≤ (i : Int) := Int.natCast_nonneg _
  unfold impl_bitsOf_B1
  simp only [Int.toNat_natCast, lenI, List.length_replicate, ltN hi, cond_true, guard_pos j3, h.bit (v := i) (by omega), nextN hi (show l.length ≤ 4294967296 by omega)]
  rw [guard_pos (idxN (by omega))]) (fun out ho => by
  unfold impl_bitsOf_B1
  simp only [Int.toNat_natCast, lenI, List.length_replicate, geN (Nat.le_refl _), cond_false])
 unfold impl_bitsOf
 rw [guard_pos ⟨by omega, by omega⟩, Int.toNat_natCast, this]; rfl

theorem riseB_in {xs : List Int} {n k : Nat} (hn : 1 ≤ n) (hn2 : n ≤ 16) (h : riseB xs (n : Int) k = true) : ∃ q : Nat, xs.getD k 0 = (q : Int) ∧ q < n := by
 unfold riseB at h
 simp only [Bool.and_eq_true, decide_eq_true_eq] at h
 have h8 := h.1
 rw [wsubI (by omega)] at h8
 exact ⟨(xs.getD k 0).toNat, by omega, by omega⟩

theorem goalStep {set : List Int} {ins goal : List Bool} {n k : Nat} (hn : 1 ≤ n) (hn2 : n ≤ 16) (hl : set.length ≤ 1048576) (li : ins.length = n) (lg : goal.length = n) (hk : k < set.length) :
  spec_ReachOf_B2 set ins ((k : Int), goal) = some (bif riseB set (n : Int) k then .inl (((k + 1 : Nat) : Int), goal.set (set.getD k 0).toNat true) else .inr (.inr ())) := by
 have jk : (0 : Int) ≤ (k : Int) ∧ (k : Int) < lenI set := idxN hk
 unfold spec_ReachOf_B2
 simp only [Int.toNat_natCast, guard_pos jk, in64, Option.bind_some]
 simp only [lenI, li, ltN hk, cond_true, nextN hk (show set.length ≤ 4294967296 by omega)]
 cases hr : riseB set (n : Int) k with
 | true =>
  obtain ⟨q, hq, hqn⟩ := riseB_in hn hn2 hr
  unfold riseB at hr
  simp only [Bool.and_eq_true, Bool.not_eq_true', Bool.and_eq_false_iff] at hr
  obtain ⟨⟨h1, h2⟩, h3⟩ := hr
  rw [hq] at h1 h2
  simp only [h1, h2, Bool.and_self, Bool.not_true, cond_false, hq, Int.toNat_natCast, guard_pos (show (0 : Int) ≤ (q : Int) ∧ (q : Int) < (goal.length : Int) from idxN (by omega)), cond_true]
  by_cases h0 : k = 0
  ·subst h0; rfl
  ·have e : wsub .i64 ((k : Nat) : Int) 1 = ((k - 1 : Nat) : Int) := by rw [wsubI (by omega)]; omega
   have d : decide (((k : Nat) : Int) > 0) = true := decide_eq_true (by omega)
   rw [d] at h3
   simp only [Bool.true_eq_false, false_or] at h3
   rw [hq] at h3
   simp only [d, cond_true, e, guard_pos (show (0 : Int) ≤ ((k - 1 : Nat) : Int) ∧ ((k - 1 : Nat) : Int) < (set.length : Int) from idxN (by omega)), Int.toNat_natCast, h3, Option.bind_some, cond_false]
 | false =>
  unfold riseB at hr
  cases h1 : (decide (set.getD k 0 ≥ 0) && decide (set.getD k 0 ≤ wsub .i64 (n : Int) 1)) with
  | false => rfl
  | true =>
   rw [h1] at hr
   simp only [Bool.true_and, Bool.not_eq_false', Bool.and_eq_true, decide_eq_true_eq] at hr
   have e : wsub .i64 ((k : Nat) : Int) 1 = ((k - 1 : Nat) : Int) := by rw [wsubI (by omega)]; omega
   simp only [Bool.not_true, cond_false, decide_eq_true hr.1, cond_true, e, guard_pos (show (0 : Int) ≤ ((k - 1 : Nat) : Int) ∧ ((k - 1 : Nat) : Int) < (set.length : Int) from idxN (by omega)), Int.toNat_natCast, decide_eq_true hr.2, Option.bind_some]

theorem goalFalse {set : List Int} {ins : List Bool} {n : Nat} (hn : 1 ≤ n) (hn2 : n ≤ 16) (hl : set.length ≤ 1048576) (li : ins.length = n) (h : allN (riseB set (n : Int)) set.length 0 = false) :
  rounds (spec_ReachOf_B2 set ins) ((0 : Int), List.replicate n false) = some (.inr ()) := by
 obtain ⟨r, h1, h2⟩ := rounds_inv (f := spec_ReachOf_B2 set ins) (fun m s => ∃ (k : Nat) (goal : List Bool), m + k = set.length ∧ s = ((k : Int), goal) ∧ goal.length = n ∧ allN (riseB set (n : Int)) m k = false) (fun r => r = .inr ()) (by
  rintro m s ⟨k, goal, hm, rfl, hg, ha⟩
  cases m with
  | zero => cases ha
  | succ m =>
   have hk : k < set.length := by omega
   rw [goalStep hn hn2 hl li hg hk]
   simp only [allN] at ha
   cases hr : riseB set (n : Int) k with
   | true =>
    rw [hr] at ha
    exact .inl ⟨m, _, by omega, rfl, k + 1, _, by omega, rfl, by simpa using hg, by simpa using ha⟩
   | false => exact .inr ⟨_, rfl, rfl⟩) set.length ((0 : Int), List.replicate n false) ⟨0, _, by omega, rfl, by simp, h⟩
 rw [h1, h2]

theorem goalTrue {set : List Int} {ins : List Bool} {n : Nat} (hn : 1 ≤ n) (hn2 : n ≤ 16) (hl : set.length ≤ 1048576) (li : ins.length = n) (h : allN (riseB set (n : Int)) set.length 0 = true) :
  ∃ goal x, rounds (spec_ReachOf_B2 set ins) ((0 : Int), List.replicate n false) = some (.inl goal) ∧ rounds (impl_ReachOf_B1 set) ((0 : Int), (0 : Int)) = some x ∧ Bs x goal ∧ goal.length = n := by
 obtain ⟨r, x, h1, h2, goal, h3, h4, h5⟩ := rounds_rel (f := spec_ReachOf_B2 set ins) (g := impl_ReachOf_B1 set) (fun m s t => ∃ (k : Nat) (goal : List Bool) (x : Int), m + k = set.length ∧ s = ((k : Int), goal) ∧ t = (x, (k : Int)) ∧ Bs x goal ∧ goal.length = n)
  (fun r x => ∃ goal, r = .inl goal ∧ Bs x goal ∧ goal.length = n) (by
  rintro m s t ⟨k, goal, x, hm, rfl, rfl, hb, hg⟩
  by_cases hk : k < set.length
  ·have hr := allN_iff.1 h k (by omega) (by omega)
   obtain ⟨q, hq, hqn⟩ := riseB_in hn hn2 hr
   rw [goalStep hn hn2 hl li hg hk, hr]
   have hs := hb.set (v := q) (by omega)
   have jk : (0 : Int) ≤ (k : Int) ∧ (k : Int) < lenI set := idxN hk
   unfold impl_ReachOf_B1
   simp only [Int.toNat_natCast, guard_pos jk, hq, guard_pos (Int.natCast_nonneg q)]
   simp only [lenI, ltN hk, cond_true, nextN hk (show set.length ≤ 4294967296 by omega)]
   exact .inl ⟨m - 1, _, _, by omega, rfl, rfl, k + 1, _, _, by omega, rfl, rfl, hs, by simpa using hg⟩
  ·unfold spec_ReachOf_B2 impl_ReachOf_B1
   simp only [lenI, geN (show set.length ≤ k by omega), cond_false]
   exact .inr ⟨_, _, rfl, rfl, goal, rfl, hb, hg⟩) set.length ((0 : Int), List.replicate n false) ((0 : Int), (0 : Int)) ⟨0, _, 0, by omega, rfl, rfl, Bs.zero hn2, by simp⟩
 exact ⟨goal, x, by rw [h1, h3], h2, h4, h5⟩

end Go.Proofs


/-
 Who wins: SolveGame.
-/
namespace Go.Proofs
open Go.Ide Go.IntWalk

def tab (n : Nat) (f : Nat → Bool) : List Bool := (List.range n).map f
theorem tab_len (n : Nat) (f : Nat → Bool) : (tab n f).length = n := by simp [tab]
theorem tab_get {n : Nat} {f : Nat → Bool} {v : Nat} (h : v < n) : (tab n f).getD v false = f v := by
 unfold tab; simp [List.getD_eq_getElem?_getD, h]

theorem Bs.exists {l : List Bool} (hl : l.length ≤ 16) : ∃ x, Bs x l := by
 have : ∀ k, k ≤ l.length → ∃ x, Bs x (tab l.length fun u => decide (u < k) && l.getD u false) := by
  intro k
  induction k with
  | zero =>
   intro _
   refine ⟨0, ?_⟩
   have e : (tab l.length fun u => decide (u < 0) && l.getD u false) = List.replicate l.length false := list_ext (by simp [tab_len]) fun v hv => by
    rw [tab_len] at hv
    rw [tab_get hv]
    simp [List.getD_eq_getElem?_getD, List.getElem?_replicate, hv]
   rw [e]
   exact Bs.zero hl
  | succ k ih =>
   intro hk
   obtain ⟨x, hx⟩ := ih (by omega)
   have hne : ∀ v, k ≠ v → decide (v < k + 1) = decide (v < k) := fun v hv => by
    by_cases h : v < k
    ·rw [decide_eq_true h, decide_eq_true (by omega)]
    ·rw [decide_eq_false h, decide_eq_false (by omega)]
   cases hb : l.getD k false with
   | true =>
    have hs := hx.set (v := k) (by rw [tab_len]; omega)
    have e : (tab l.length fun u => decide (u < k + 1) && l.getD u false) = (tab l.length fun u => decide (u < k) && l.getD u false).set k true := list_ext (by simp [tab_len]) fun v hv => by
     rw [tab_len] at hv
     rw [tab_get hv]
     by_cases e : k = v
     ·subst e
      rw [hb, decide_eq_true (by omega)]
      simp [List.getD_eq_getElem?_getD, tab_len, hv]
     ·rw [hne v e]
      have := tab_get (n := l.length) (f := fun u => decide (u < k) && l.getD u false) hv
      rw [← this]
      simp only [List.getD_eq_getElem?_getD]
      rw [List.getElem?_set_ne e]
    rw [← e] at hs
    exact ⟨_, hs⟩
   | false =>
    refine ⟨x, ?_⟩
    have e : (tab l.length fun u => decide (u < k + 1) && l.getD u false) = (tab l.length fun u => decide (u < k) && l.getD u false) := list_ext (by simp [tab_len]) fun v hv => by
     rw [tab_len] at hv
     rw [tab_get hv, tab_get hv]
     by_cases e : k = v
     ·subst e; rw [hb, Bool.and_false, Bool.and_false]
     ·rw [hne v e]
    rw [e]; exact hx
 obtain ⟨x, hx⟩ := this l.length (Nat.le_refl _)
 refine ⟨x, ?_⟩
 have e : (tab l.length fun u => decide (u < l.length) && l.getD u false) = l := list_ext (by simp [tab_len]) fun v hv => by
  rw [tab_len] at hv
  rw [tab_get hv, decide_eq_true hv, Bool.true_and]
 rw [e] at hx
 exact hx

def rankN (ins : List Bool) (R : List Int) : Nat → Int
 | 0 => -1
 | i + 1 => bif ins.getD i false then (bif decide (rankN ins R i > R.getD i 0) then rankN ins R i else R.getD i 0) else rankN ins R i

section
variable (O R : List Int) (M : List (List Int))

def rkI (ins : List Bool) : Int := rankN ins R ins.length
def plI (ins : List Bool) : Int := Int.tmod (rkI R ins) 2
def topL (ins : List Bool) : List Bool := tab ins.length fun i => ins.getD i false && (R.getD i 0 == rkI R ins)
noncomputable def drawV (ins set : List Bool) (p : Int) : List Bool := (spec_l07Draw (O, R, M) ins set p).getD []
noncomputable def nearV (ins : List Bool) : List Bool := drawV O R M ins (topL R ins) (plI R ins)
noncomputable def restV (ins : List Bool) : List Bool := subL ins (nearV O R M ins)
noncomputable def otherV (ins sub : List Bool) : List Bool := tab ins.length fun i => (restV O R M ins).getD i false && (sub.getD i false == (plI R ins == 0))
noncomputable def lostV (ins sub : List Bool) : List Bool := drawV O R M ins (otherV O R M ins sub) (wsub .i64 1 (plI R ins))
noncomputable def rest2V (ins sub : List Bool) : List Bool := subL ins (lostV O R M ins sub)
noncomputable def someV (ins sub : List Bool) : Bool := (otherV O R M ins sub).any id

noncomputable def winStep (slv : List Bool → List Bool) (ins : List Bool) : List Bool :=
 bif decide (rkI R ins < 0) then List.replicate ins.length false else
 bif someV O R M ins (slv (restV O R M ins)) then
  tab ins.length fun i => (slv (rest2V O R M ins (slv (restV O R M ins)))).getD i false || ((lostV O R M ins (slv (restV O R M ins))).getD i false && (plI R ins == 0))
 else tab ins.length fun i => ins.getD i false && (plI R ins == 1)

noncomputable def winN : Nat → List Bool → List Bool
 | 0, ins => List.replicate ins.length false
 | k + 1, ins => winStep O R M (winN k) ins

noncomputable def winV (ins : List Bool) : List Bool := winN O R M (cnt ins + 1) ins
end

section
variable {n : Nat} {O R : List Int} {M : List (List Int)}

theorem drawV_ok (g : Game n O R M) {ins set : List Bool} (l1 : ins.length = n) (l2 : set.length = n) (p : Int) :
  spec_l07Draw (O, R, M) ins set p = some (drawV O R M ins set p) ∧ (drawV O R M ins set p).length = n ∧ (∀ u, u < n → set.getD u false = true → (drawV O R M ins set p).getD u false = true) ∧
   (∀ u, u < n → (drawV O R M ins set p).getD u false = true → set.getD u false = true ∨ ins.getD u false = true) ∧
   ∀ a x, Bs a ins → Bs x set → ∃ y, impl_Game_reach (O, R, M) a x p = some y ∧ Bs y (drawV O R M ins set p) := by
 have n2 := g.n2
 obtain ⟨a, ha⟩ := Bs.exists (l := ins) (by omega)
 obtain ⟨x, hx⟩ := Bs.exists (l := set) (by omega)
 obtain ⟨out, y, h1, h2, h3, h4, h5, h6⟩ := drawSame g ha hx l1 l2 p
 have e : drawV O R M ins set p = out := by unfold drawV; rw [h1]; rfl
 rw [e]
 refine ⟨h1, h4, h5, h6, fun a' x' ha' hx' => ?_⟩
 rw [ha'.inj ha, hx'.inj hx]
 exact ⟨y, h2, h3⟩

theorem rank_of (g : Game n O R M) {ins : List Bool} (l1 : ins.length = n) : ∀ i, i ≤ n → (∀ u, u < i → ins.getD u false = true → R.getD u 0 ≤ rankN ins R i) ∧ (rankN ins R i = -1 ∨ ∃ u, u < i ∧ ins.getD u false = true ∧ R.getD u 0 = rankN ins R i)
 | 0, _ => ⟨fun u hu => by omega, .inl rfl⟩
 | i + 1, hi => by
  obtain ⟨h1, h2⟩ := rank_of g l1 i (by omega)
  simp only [rankN]
  cases hb : ins.getD i false with
  | false =>
   simp only [cond_false]
   refine ⟨fun u hu h => ?_, ?_⟩
   ·by_cases e : u = i
    ·subst e; rw [hb] at h; cases h
    ·exact h1 u (by omega) h
   ·rcases h2 with h2 | ⟨u, hu, q1, q2⟩
    ·exact .inl h2
    ·exact .inr ⟨u, by omega, q1, q2⟩
  | true =>
   simp only [cond_true]
   by_cases hgt : rankN ins R i > R.getD i 0
   ·simp only [decide_eq_true hgt, cond_true]
    refine ⟨fun u hu h => ?_, ?_⟩
    ·by_cases e : u = i
     ·subst e; omega
     ·exact h1 u (by omega) h
    ·rcases h2 with h2 | ⟨u, hu, q1, q2⟩
     ·exact .inl h2
     ·exact .inr ⟨u, by omega, q1, q2⟩
   ·simp only [decide_eq_false hgt, cond_false]
    refine ⟨fun u hu h => ?_, .inr ⟨i, by omega, hb, rfl⟩⟩
    by_cases e : u = i
    ·subst e; omega
    ·have := h1 u (by omega) h; omega

theorem rk_cases (g : Game n O R M) {ins : List Bool} (l1 : ins.length = n) :
  (rkI R ins = -1 ∧ ∀ u, u < n → ins.getD u false = false) ∨ (0 ≤ rkI R ins ∧ (plI R ins = 0 ∨ plI R ins = 1) ∧ ∃ u, u < n ∧ ins.getD u false = true ∧ (topL R ins).getD u false = true) := by
 obtain ⟨h1, h2⟩ := rank_of g l1 n (Nat.le_refl _)
 have e : rkI R ins = rankN ins R n := by unfold rkI; rw [l1]
 rcases h2 with h2 | ⟨u, hu, q1, q2⟩
 ·left
  refine ⟨by rw [e, h2], fun u hu => ?_⟩
  cases hb : ins.getD u false with
  | false => rfl
  | true =>
   have := h1 u hu hb
   obtain ⟨r, hr, _⟩ := g.rk u hu
   omega
 ·right
  obtain ⟨r, hr, _⟩ := g.rk u hu
  have hk : rkI R ins = (r : Int) := by omega
  refine ⟨by omega, ?_, u, hu, q1, ?_⟩
  ·unfold plI
   rw [hk]
   have : Int.tmod (r : Int) 2 = ((r % 2 : Nat) : Int) := by rw [Int.tmod_eq_emod_of_nonneg (by omega)]; omega
   omega
  ·unfold topL
   rw [tab_get (by omega), q1, e, q2]; simp

theorem rest_lt (g : Game n O R M) {ins : List Bool} (l1 : ins.length = n) (hk : 0 ≤ rkI R ins) : (restV O R M ins).length = n ∧ cnt (restV O R M ins) < cnt ins := by
 have hl : (restV O R M ins).length = n := by unfold restV; rw [subL_len]; exact l1
 refine ⟨hl, cnt_lt (by rw [hl, l1]) (fun v hv h => ?_) ?_⟩
 ·unfold restV at h
  rw [subL_get, Bool.and_eq_true] at h
  exact h.1
 ·rcases rk_cases g l1 with ⟨h1, _⟩ | ⟨_, _, u, hu, q1, q2⟩
  ·omega
  ·have lt : (topL R ins).length = n := by unfold topL; rw [tab_len]; exact l1
   have hd := (drawV_ok g l1 lt (plI R ins)).2.2.1 u hu q2
   refine ⟨u, by rw [hl]; exact hu, ?_, q1⟩
   unfold restV nearV
   rw [subL_get, hd, q1]; rfl

theorem other_len {ins sub : List Bool} : (otherV O R M ins sub).length = ins.length := by unfold otherV; rw [tab_len]

theorem rest2_lt (g : Game n O R M) {ins sub : List Bool} (l1 : ins.length = n) (hs : someV O R M ins sub = true) : (rest2V O R M ins sub).length = n ∧ cnt (rest2V O R M ins sub) < cnt ins := by
 have hl : (rest2V O R M ins sub).length = n := by unfold rest2V; rw [subL_len]; exact l1
 have lo : (otherV O R M ins sub).length = n := by rw [other_len]; exact l1
 refine ⟨hl, cnt_lt (by rw [hl, l1]) (fun v hv h => ?_) ?_⟩
 ·unfold rest2V at h
  rw [subL_get, Bool.and_eq_true] at h
  exact h.1
 ·unfold someV at hs
  rw [List.any_eq_true] at hs
  obtain ⟨b, hb, e⟩ := hs
  obtain ⟨u, hu, e2⟩ := List.getElem_of_mem hb
  have hun : u < n := by omega
  have ht : (otherV O R M ins sub).getD u false = true := by
   rw [List.getD_eq_getElem?_getD, List.getElem?_eq_getElem hu, e2]; exact e
  have hi : ins.getD u false = true := by
   unfold otherV at ht
   rw [tab_get (by omega), Bool.and_eq_true] at ht
   have := ht.1
   unfold restV at this
   rw [subL_get, Bool.and_eq_true] at this
   exact this.1
  have hd := (drawV_ok g l1 lo (wsub .i64 1 (plI R ins))).2.2.1 u hun ht
  refine ⟨u, by rw [hl]; exact hun, ?_, hi⟩
  unfold rest2V lostV
  rw [subL_get, hd, hi]; rfl

theorem winStep_len {slv : List Bool → List Bool} {ins : List Bool} : (winStep O R M slv ins).length = ins.length := by
 unfold winStep
 cases decide (rkI R ins < 0) with
 | true => simp
 | false =>
  cases someV O R M ins (slv (restV O R M ins)) <;> simp [tab_len]

theorem winN_len : ∀ (k : Nat) {ins : List Bool}, (winN O R M k ins).length = ins.length
 | 0, _ => by simp [winN]
 | _ + 1, _ => winStep_len

theorem winN_stable (g : Game n O R M) : ∀ (c : Nat) {ins : List Bool}, ins.length = n → cnt ins = c → ∀ k, c ≤ k → winN O R M (k + 1) ins = winN O R M (c + 1) ins := by
 intro c
 induction c using Nat.strongRecOn with
 | _ c ih =>
  intro ins l1 hc k hk
  have same : ∀ (b : List Bool), b.length = n → cnt b < c → winN O R M k b = winN O R M c b := fun b hb hlt => by
   obtain ⟨k', rfl⟩ : ∃ k', k = k' + 1 := ⟨k - 1, by omega⟩
   obtain ⟨c', rfl⟩ : ∃ c', c = c' + 1 := ⟨c - 1, by omega⟩
   rw [ih (cnt b) hlt hb rfl k' (by omega), ih (cnt b) hlt hb rfl c' (by omega)]
  simp only [winN]
  unfold winStep
  cases hr : decide (rkI R ins < 0) with
  | true => rfl
  | false =>
   have hr : 0 ≤ rkI R ins := by simpa using hr
   obtain ⟨q1, q2⟩ := rest_lt g l1 hr
   rw [same _ q1 (by omega)]
   simp only [cond_false]
   cases hs : someV O R M ins (winN O R M c (restV O R M ins)) with
   | false => rfl
   | true =>
    obtain ⟨q3, q4⟩ := rest2_lt g l1 hs
    rw [same _ q3 (by omega)]

theorem winV_eq (g : Game n O R M) {ins : List Bool} (l1 : ins.length = n) : winV O R M ins = winStep O R M (winV O R M) ins := by
 have hw : ∀ b : List Bool, b.length = n → cnt b < cnt ins → winN O R M (cnt ins) b = winV O R M b := fun b hb hlt => by
  obtain ⟨c, hc⟩ : ∃ c, cnt ins = c + 1 := ⟨cnt ins - 1, by omega⟩
  rw [hc]
  exact winN_stable g (cnt b) hb rfl c (by omega)
 show winStep O R M (winN O R M (cnt ins)) ins = _
 unfold winStep
 cases hr : decide (rkI R ins < 0) with
 | true => rfl
 | false =>
  have hr : 0 ≤ rkI R ins := by simpa using hr
  obtain ⟨q1, q2⟩ := rest_lt g l1 hr
  rw [hw _ q1 q2]
  simp only [cond_false]
  cases hs : someV O R M ins (winV O R M (restV O R M ins)) with
  | false => rfl
  | true =>
   obtain ⟨q3, q4⟩ := rest2_lt g l1 hs
   rw [hw _ q3 q4]

theorem winV_len (ins : List Bool) : (winV O R M ins).length = ins.length := winN_len _

theorem winV_in (g : Game n O R M) : ∀ (c : Nat) {ins : List Bool}, ins.length = n → cnt ins = c → ∀ u, u < n → (winV O R M ins).getD u false = true → ins.getD u false = true := by
 intro c
 induction c using Nat.strongRecOn with
 | _ c ih =>
  intro ins l1 hc u hu h
  rw [winV_eq g l1] at h
  unfold winStep at h
  cases hr : decide (rkI R ins < 0) with
  | true =>
   rw [hr] at h
   simp [List.getD_eq_getElem?_getD, List.getElem?_replicate] at h
   split at h <;> simp at h
  | false =>
   rw [hr] at h
   simp only [cond_false] at h
   cases hs : someV O R M ins (winV O R M (restV O R M ins)) with
   | false =>
    rw [hs] at h
    simp only [cond_false] at h
    rw [tab_get (by omega), Bool.and_eq_true] at h
    exact h.1
   | true =>
    rw [hs] at h
    simp only [cond_true] at h
    rw [tab_get (by omega), Bool.or_eq_true, Bool.and_eq_true] at h
    obtain ⟨q3, q4⟩ := rest2_lt g l1 hs
    have lo : (otherV O R M ins (winV O R M (restV O R M ins))).length = n := by rw [other_len]; exact l1
    rcases h with h | ⟨h, _⟩
    ·have := ih (cnt (rest2V O R M ins (winV O R M (restV O R M ins)))) (by omega) q3 rfl u hu h
     unfold rest2V at this
     rw [subL_get, Bool.and_eq_true] at this
     exact this.1
    ·rcases (drawV_ok g l1 lo (wsub .i64 1 (plI R ins))).2.2.2.1 u hu h with h | h
     ·unfold otherV at h
      rw [tab_get (by omega), Bool.and_eq_true] at h
      have := h.1
      unfold restV at this
      rw [subL_get, Bool.and_eq_true] at this
      exact this.1
     ·exact h

end
end Go.Proofs


/-
 SolveGame.
-/
namespace Go.Proofs
open Go.Ide Go.IntWalk

section
variable {n : Nat} {O R : List Int} {M : List (List Int)}

theorem specWithout {ins near : List Bool} (h : ins.length ≤ 16) (hl : near.length = ins.length) : spec_l07Without ins near = some (subL ins near) := by
 have := loop_app (f := spec_l07Without_B1 ins near) (fun i => ins.getD i false && !(near.getD i false)) ins.length [] (fun i out hi ho => by
  have hg : ∀ b : Bool, List.length out + List.length ([b] : List Bool) ≤ appMax := fun b => by simp only [List.length_singleton, appMax, ho, List.length_nil]; omega
  unfold spec_l07Without_B1
  simp only [lenI, ltN hi, cond_true, Int.toNat_natCast, nextN hi (show ins.length ≤ 4294967296 by omega), guard_pos (idxN hi), guard_pos (idxN (show i < near.length by omega)), guard_pos (hg _)]
  cases ins.getD i false <;> rfl) (fun out => by
  unfold spec_l07Without_B1
  simp only [lenI, geN (Nat.le_refl _), cond_false])
 unfold spec_l07Without
 rw [this]; rfl

theorem specRank (g : Game n O R M) {ins : List Bool} (l1 : ins.length = n) : rounds (spec_l07Win_B5 (O, R, M) ins) ((-1 : Int), (0 : Int)) = some (rkI R ins) := by
 have n2 := g.n2
 have lr := g.lr
 have := rounds_forS (f := spec_l07Win_B5 (O, R, M) ins) (fun i (s : Int) => (s, ((i : Nat) : Int))) (fun i _ => rankN ins R (i + 1)) id (n := ins.length) (fun i s => s = rankN ins R i)
  (fun i s hi hs => ⟨by
   subst hs
   unfold spec_l07Win_B5 spec_l00Max
   simp only [lenI, ltN hi, cond_true, Int.toNat_natCast, nextN hi (show ins.length ≤ 4294967296 by omega), guard_pos (idxN hi), guard_pos (idxN (show i < R.length by omega))]
   rw [rankN]
   cases ins.getD i false with
   | false => rfl
   | true =>
    cases decide (rankN ins R i > R.getD i 0) <;> rfl, rfl⟩)
  (fun s _ => by
   unfold spec_l07Win_B5
   simp only [lenI, geN (Nat.le_refl _), cond_false]; rfl) ins.length 0 (-1) (by omega) rfl
 simp only [Int.natCast_zero] at this
 rw [this.1, id, this.2]; rfl

theorem someLoop {r : Int} {rest sub xs : List Bool} {n : Nat} (hn : n ≤ 16) (l1 : rest.length = n) (l2 : sub.length = n) (l3 : xs.length = n) (hx : ∀ i, i < n → xs.getD i false = (rest.getD i false && (sub.getD i false == (Int.tmod r 2 == 0)))) :
  rounds (spec_l07Win_B3 r rest sub) (false, (0 : Int), List.replicate n false) = some (xs.any id, xs) := by
 have := rounds_forS (f := spec_l07Win_B3 r rest sub) (fun i (s : Bool × List Bool) => (s.1, ((i : Nat) : Int), s.2)) (fun i s => (s.1 || xs.getD i false, s.2.set i (xs.getD i false))) (fun s => (s.1, s.2)) (n := n)
  (fun i s => s.1 = (xs.take i).any id ∧ s.2 = xs.take i ++ List.replicate (n - i) false)
  (fun i s hi hs => by
   obtain ⟨h1, h2⟩ := hs
   have hol : s.2.length = n := by rw [h2]; simp; omega
   have hset : ∀ b : Bool, (s.2.set i b).getD i false = b := fun b => by simp [List.getD_eq_getElem?_getD, hol, hi]
   refine ⟨?_, ?_, ?_⟩
   ·have hx := hx i hi
    unfold spec_l07Win_B3
    simp only [lenI, l1, l2, hol, List.length_set, ltN hi, cond_true, Int.toNat_natCast, nextN hi (show n ≤ 4294967296 by omega), guard_pos (idxN hi)]
    cases hr : rest.getD i false with
    | true =>
     rw [hr, Bool.true_and] at hx
     simp only [cond_true, Option.bind_some, ← hx, List.length_set, hol, guard_pos (idxN hi), hset]
     cases s.1 <;> cases xs.getD i false <;> rfl
    | false =>
     rw [hr, Bool.false_and] at hx
     simp only [cond_false, Option.bind_some, hx, List.length_set, hol, guard_pos (idxN hi), hset]
     cases s.1 <;> rfl
   ·rw [take_snoc (by omega) false, List.any_append, h1]
    simp
   ·rw [h2, take_snoc (by omega) false, show n - i = (n - (i + 1)) + 1 from by omega, List.replicate_succ, set_at (by simp; omega)]
    simp)
  (fun s hs => by
   unfold spec_l07Win_B3
   simp only [lenI, l1, geN (Nat.le_refl _), cond_false]) n 0 (false, List.replicate n false) (by omega) (by simp)
 simp only [Int.natCast_zero] at this
 obtain ⟨h1, h2, h3⟩ := this
 rw [h1, h2, h3, ← l3]
 simp

theorem setLoop {f : Int × List Bool → Option ((Int × List Bool) ⊕ List Bool)} {n : Nat} (v : Nat → Bool) (hstep : ∀ (i : Nat) (out : List Bool), i < n → out.length = n → f ((i : Int), out) = some (.inl (((i + 1 : Nat) : Int), out.set i (v i))))
  (hend : ∀ out : List Bool, f ((n : Int), out) = some (.inr out)) : rounds f ((0 : Int), List.replicate n false) = some (tab n v) := by
 have := loop_to (f := f) (tab n v) false (fun i out hi ho => by
  rw [tab_len] at hi ho
  rw [tab_get hi]
  exact hstep i out hi ho) (fun out _ => by rw [tab_len]; exact hend out)
 rw [tab_len] at this
 exact this

theorem specWin (g : Game n O R M) {ins : List Bool} (l1 : ins.length = n) : spec_l07Win (O, R, M) ins = some (winV O R M ins) := by
 have n2 := g.n2
 have lr := g.lr
 unfold spec_l07Win
 refine recO_size (F := fun slv x => spec_l07Win_G slv x.1 x.2) (μ := fun a => cnt a.2) (I := fun a => a.1 = (O, R, M) ∧ a.2.length = n) (e := fun a => winV O R M a.2) ?_ ((O, R, M), ins) ⟨rfl, l1⟩
 rintro slv ⟨a, ins⟩ ⟨rfl, l1⟩ ih
 have l1 : ins.length = n := l1
 have ih : ∀ b : List Bool, b.length = n → cnt b < cnt ins → slv ((O, R, M), b) = some (winV O R M b) := fun b hb hlt => ih ((O, R, M), b) ⟨rfl, hb⟩ hlt
 show spec_l07Win_G slv (O, R, M) ins = some (winV O R M ins)
 rw [winV_eq g l1]
 have e0 : Int.toNat (lenI ins) = n := by simp [lenI, l1]
 have jb : (0 : Int) ≤ lenI ins ∧ lenI ins ≤ 4294967296 := by simp only [lenI]; omega
 unfold spec_l07Win_G winStep
 simp only [specRank g l1, Option.bind_some, guard_pos jb, e0, l1]
 cases hr : decide (rkI R ins < 0) with
 | true => rfl
 | false =>
  have hr : 0 ≤ rkI R ins := by simpa using hr
  have lt : (topL R ins).length = n := by unfold topL; rw [tab_len]; exact l1
  have htop : rounds (spec_l07Win_B4 (O, R, M) ins (rkI R ins)) ((0 : Int), List.replicate n false) = some (topL R ins) := by
   unfold topL
   rw [l1]
   refine setLoop _ (fun i out hi ho => ?_) (fun out => ?_)
   ·unfold spec_l07Win_B4
    simp only [lenI, l1, ho, ltN hi, cond_true, Int.toNat_natCast, nextN hi (show n ≤ 4294967296 by omega), guard_pos (idxN hi), guard_pos (idxN (show i < R.length by omega))]
    cases ins.getD i false <;> rfl
   ·unfold spec_l07Win_B4
    simp only [lenI, l1, geN (Nat.le_refl _), cond_false]
  obtain ⟨q1, q2⟩ := rest_lt g l1 hr
  obtain ⟨d1, d2, d3, d4, _⟩ := drawV_ok g l1 lt (plI R ins)
  have hpl : Int.tmod (rkI R ins) 2 = plI R ins := rfl
  have hw : spec_l07Without ins (drawV O R M ins (topL R ins) (plI R ins)) = some (restV O R M ins) := specWithout (by omega) (by rw [d2, l1])
  simp only [cond_false, htop, Option.bind_some, hpl, d1, hw, ih _ q1 q2]
  have lw : (winV O R M (restV O R M ins)).length = n := by rw [winV_len, q1]
  generalize hsub : winV O R M (restV O R M ins) = sub at lw
  have lo : (otherV O R M ins sub).length = n := by rw [other_len, l1]
  have hs := someLoop (r := rkI R ins) (rest := restV O R M ins) (sub := sub) (xs := otherV O R M ins sub) n2 q1 lw lo (fun i hi => by
   unfold otherV
   rw [tab_get (by omega), hpl])
  simp only [hs, Option.bind_some]
  have hsv : (otherV O R M ins sub).any id = someV O R M ins sub := rfl
  rw [hsv]
  cases hsome : someV O R M ins sub with
  | false =>
   simp only [Bool.not_false, cond_true, cond_false]
   rw [setLoop (f := spec_l07Win_B1 ins (rkI R ins)) (fun i => ins.getD i false && (plI R ins == 1)) (fun i out hi ho => by
    unfold spec_l07Win_B1
    simp only [lenI, l1, ho, ltN hi, cond_true, Int.toNat_natCast, nextN hi (show n ≤ 4294967296 by omega), guard_pos (idxN hi), hpl]
    cases ins.getD i false <;> rfl) (fun out => by
    unfold spec_l07Win_B1
    simp only [lenI, l1, geN (Nat.le_refl _), cond_false])]
   rfl
  | true =>
   obtain ⟨q3, q4⟩ := rest2_lt g l1 hsome
   obtain ⟨b1, b2, _, _, _⟩ := drawV_ok g l1 lo (wsub .i64 1 (plI R ins))
   have hw2 : spec_l07Without ins (drawV O R M ins (otherV O R M ins sub) (wsub .i64 1 (plI R ins))) = some (rest2V O R M ins sub) := specWithout (by omega) (by rw [b2, l1])
   have ll : (lostV O R M ins sub).length = n := b2
   have lw2 : (winV O R M (rest2V O R M ins sub)).length = n := by rw [winV_len, q3]
   simp only [Bool.not_true, cond_true, cond_false, b1, Option.bind_some, hw2, ih _ q3 q4]
   rw [setLoop (f := spec_l07Win_B2 ins (rkI R ins) (drawV O R M ins (otherV O R M ins sub) (wsub .i64 1 (plI R ins))) (winV O R M (rest2V O R M ins sub))) (fun i => (winV O R M (rest2V O R M ins sub)).getD i false || ((lostV O R M ins sub).getD i false && (plI R ins == 0))) (fun i out hi ho => by
    have e : (drawV O R M ins (otherV O R M ins sub) (wsub .i64 1 (plI R ins))) = lostV O R M ins sub := rfl
    unfold spec_l07Win_B2
    simp only [e, lenI, l1, lw2, ll, ho, ltN hi, cond_true, Int.toNat_natCast, nextN hi (show n ≤ 4294967296 by omega), guard_pos (idxN hi), hpl]
    cases (winV O R M (rest2V O R M ins sub)).getD i false with
    | true => rfl
    | false => cases (lostV O R M ins sub).getD i false <;> rfl) (fun out => by
    unfold spec_l07Win_B2
    simp only [lenI, l1, geN (Nat.le_refl _), cond_false])]
   rfl

end
end Go.Proofs


/-
 SolveGame: the program's side.
-/
namespace Go.Proofs
open Go.Ide Go.IntWalk

def decL (n : Nat) (x : Int) : List Bool := tab n fun v => x.toNat.testBit v

theorem decL_of {n : Nat} {x : Int} {l : List Bool} (h : Bs x l) (hl : l.length = n) : decL n x = l := by
 obtain ⟨_, N, rfl, _, hb⟩ := h
 refine list_ext (by unfold decL; rw [tab_len, hl]) fun v hv => ?_
 unfold decL at hv ⊢
 rw [tab_len] at hv
 rw [tab_get hv, Int.toNat_natCast, hb]

open Classical in
noncomputable def enc (l : List Bool) : Int := if h : l.length ≤ 16 then Classical.choose (Bs.exists h) else 0

theorem enc_ok {l : List Bool} (h : l.length ≤ 16) : Bs (enc l) l := by
 unfold enc
 rw [dif_pos h]
 exact Classical.choose_spec (Bs.exists h)

section
variable {n : Nat} {O R : List Int} {M : List (List Int)}

theorem implTop (g : Game n O R M) {ins : List Bool} {a : Int} (ha : Bs a ins) (l1 : ins.length = n) :
  ∃ x, rounds (impl_Game_solve_B1 (O, R, M) a) ((-1 : Int), (0 : Int), (0 : Int)) = some (rkI R ins, x) ∧ Bs x (topL R ins) := by
 have n2 := g.n2
 have lr := g.lr
 obtain ⟨r, h1, x, h2, h3⟩ := rounds_inv (f := impl_Game_solve_B1 (O, R, M) a)
  (fun m s => ∃ (v : Nat) (x : Int), m + v = n ∧ s = (rankN ins R v, x, (v : Int)) ∧ Bs x (tab n fun u => decide (u < v) && (ins.getD u false && (R.getD u 0 == rankN ins R v))))
  (fun r => ∃ x, r = (rkI R ins, x) ∧ Bs x (topL R ins)) (by
  rintro m s ⟨v, x, hm, rfl, hb⟩
  by_cases hv : v < n
  ·have b0 := ha.bit0 (v := v) (by omega)
   have j1 : (0 : Int) ≤ (v : Int) ∧ (v : Int) < lenI R := idxN (by omega)
   have j2 : (0 : Int) ≤ (v : Int) := Int.natCast_nonneg _
   have hd : decide ((v : Int) < lenI R) = true := by simp only [lenI]; exact ltN (by omega)
   have hrk := (rank_of g l1 v (by omega)).1
   have hne : ∀ u, v ≠ u → decide (u < v + 1) = decide (u < v) := fun u hu => by
    by_cases h : u < v
    ·rw [decide_eq_true h, decide_eq_true (by omega)]
    ·rw [decide_eq_false h, decide_eq_false (by omega)]
   unfold impl_Game_solve_B1
   simp only [hd, cond_true, Int.toNat_natCast, guard_pos j1, guard_pos j2, b0, nextN hv (show n ≤ 4294967296 by omega)]
   cases hi : ins.getD v false with
   | false =>
    refine .inl ⟨m - 1, _, by omega, rfl, v + 1, x, by omega, ?_, ?_⟩
    ·rw [rankN, hi]; rfl
    ·have e : (tab n fun u => decide (u < v + 1) && (ins.getD u false && (R.getD u 0 == rankN ins R (v + 1)))) = tab n fun u => decide (u < v) && (ins.getD u false && (R.getD u 0 == rankN ins R v)) := list_ext (by simp [tab_len]) fun u hu => by
      rw [tab_len] at hu
      rw [tab_get hu, tab_get hu, rankN, hi, cond_false]
      by_cases e : v = u
      ·subst e; rw [hi]; simp
      ·rw [hne u e]
     rw [e]; exact hb
   | true =>
    by_cases hlt : R.getD v 0 < rankN ins R v
    ·have hr1 : rankN ins R (v + 1) = rankN ins R v := by rw [rankN, hi, cond_true, decide_eq_true (by omega), cond_true]
     simp only [Bool.not_true, cond_false, Option.bind_some, decide_eq_true hlt, cond_true]
     refine .inl ⟨m - 1, _, by omega, rfl, v + 1, x, by omega, by rw [hr1], ?_⟩
     have e : (tab n fun u => decide (u < v + 1) && (ins.getD u false && (R.getD u 0 == rankN ins R (v + 1)))) = tab n fun u => decide (u < v) && (ins.getD u false && (R.getD u 0 == rankN ins R v)) := list_ext (by simp [tab_len]) fun u hu => by
      rw [tab_len] at hu
      rw [tab_get hu, tab_get hu, hr1]
      by_cases e : v = u
      ·subst e
       have : (R.getD v 0 == rankN ins R v) = false := by simp only [beq_eq_false_iff_ne, ne_eq]; omega
       rw [this]; simp
      ·rw [hne u e]
     rw [e]; exact hb
    ·have hr1 : rankN ins R (v + 1) = R.getD v 0 := by rw [rankN, hi, cond_true, decide_eq_false (by omega), cond_false]
     simp only [Bool.not_true, cond_false, Option.bind_some, decide_eq_false hlt]
     by_cases hgt : R.getD v 0 > rankN ins R v
     ·simp only [decide_eq_true hgt, cond_true, Option.bind_some]
      have hz := (Bs.zero (n := n) n2).set (v := v) (by simpa using hv)
      refine .inl ⟨m - 1, _, by omega, rfl, v + 1, _, by omega, by rw [hr1], ?_⟩
      have e : (tab n fun u => decide (u < v + 1) && (ins.getD u false && (R.getD u 0 == rankN ins R (v + 1)))) = (List.replicate n false).set v true := list_ext (by simp [tab_len]) fun u hu => by
       rw [tab_len] at hu
       rw [tab_get hu, hr1]
       by_cases e : v = u
       ·subst e
        rw [hi, decide_eq_true (by omega)]
        simp [List.getD_eq_getElem?_getD, hv]
       ·rw [hne u e]
        have : (List.replicate n false |>.set v true).getD u false = false := by
         simp only [List.getD_eq_getElem?_getD]
         rw [List.getElem?_set_ne e, List.getElem?_replicate]
         split <;> rfl
        rw [this]
        by_cases h : u < v
        ·rw [decide_eq_true h]
         cases hiu : ins.getD u false with
         | false => rfl
         | true =>
          have := hrk u h hiu
          have : (R.getD u 0 == R.getD v 0) = false := by simp only [beq_eq_false_iff_ne, ne_eq]; omega
          rw [this]; rfl
        ·rw [decide_eq_false h]; rfl
      rw [e]; exact hz
     ·simp only [decide_eq_false hgt, cond_false, Option.bind_some]
      have heq : R.getD v 0 = rankN ins R v := by omega
      have hz := hb.set (v := v) (by rw [tab_len]; exact hv)
      refine .inl ⟨m - 1, _, by omega, rfl, v + 1, _, by omega, by rw [hr1, heq], ?_⟩
      have e : (tab n fun u => decide (u < v + 1) && (ins.getD u false && (R.getD u 0 == rankN ins R (v + 1)))) = (tab n fun u => decide (u < v) && (ins.getD u false && (R.getD u 0 == rankN ins R v))).set v true := list_ext (by simp [tab_len]) fun u hu => by
       rw [tab_len] at hu
       rw [tab_get hu, hr1, heq]
       by_cases e : v = u
       ·subst e
        rw [hi, decide_eq_true (by omega), heq]
        simp [List.getD_eq_getElem?_getD, tab_len, hv]
       ·rw [hne u e]
        have := tab_get (n := n) (f := fun u => decide (u < v) && (ins.getD u false && (R.getD u 0 == rankN ins R v))) hu
        rw [← this]
        simp only [List.getD_eq_getElem?_getD]
        rw [List.getElem?_set_ne e]
      rw [e]; exact hz
  ·have hvn : v = n := by omega
   have hd : decide ((v : Int) < lenI R) = false := by simp only [lenI]; exact geN (by omega)
   unfold impl_Game_solve_B1
   simp only [hd, cond_false]
   refine .inr ⟨_, rfl, x, ?_, ?_⟩
   ·unfold rkI; rw [l1, hvn]
   ·have e : topL R ins = tab n fun u => decide (u < v) && (ins.getD u false && (R.getD u 0 == rankN ins R v)) := list_ext (by unfold topL; simp [tab_len, l1]) fun u hu => by
     unfold topL at hu ⊢
     rw [tab_len] at hu
     rw [tab_get hu, tab_get (by omega), decide_eq_true (by omega), Bool.true_and]
     unfold rkI
     rw [l1, hvn]
    rw [e]; exact hb) n ((-1 : Int), (0 : Int), (0 : Int)) ⟨0, 0, by omega, rfl, by
   have e : (tab n fun u => decide (u < 0) && (ins.getD u false && (R.getD u 0 == rankN ins R 0))) = List.replicate n false := list_ext (by simp [tab_len]) fun u hu => by
    rw [tab_len] at hu
    rw [tab_get hu]
    simp [List.getD_eq_getElem?_getD, List.getElem?_replicate, hu]
   rw [e]
   exact Bs.zero n2⟩
 exact ⟨x, by rw [h1, h2], h3⟩

theorem implLost {slv : ((List Int × List Int × List (List Int)) × Int) → Option Int} {set win : List Bool} {b y p : Int} (hb : Bs b set) (hs : slv ((O, R, M), b) = some y) (hy : Bs y (subL set win)) (hw : ∀ u, win.getD u false = true → set.getD u false = true) (hp : p = 0 ∨ p = 1) :
  ∃ z, impl_Game_lost_G slv (O, R, M) b p = some z ∧ Bs z (tab set.length fun i => set.getD i false && (win.getD i false == (p == 0))) := by
 unfold impl_Game_lost_G
 simp only [hs, Option.bind_some]
 rcases hp with rfl | rfl
 ·have h := hb.sub hy
  refine ⟨_, rfl, ?_⟩
  have e : (tab set.length fun i => set.getD i false && (win.getD i false == ((0 : Int) == 0))) = subL set (subL set win) := list_ext (by simp [tab_len, subL_len]) fun u hu => by
   rw [tab_len] at hu
   rw [tab_get hu, subL_get, subL_get]
   cases set.getD u false <;> cases win.getD u false <;> rfl
  rw [e]; exact h
 ·refine ⟨_, rfl, ?_⟩
  have e : (tab set.length fun i => set.getD i false && (win.getD i false == ((1 : Int) == 0))) = subL set win := list_ext (by simp [tab_len, subL_len]) fun u hu => by
   rw [tab_len] at hu
   rw [tab_get hu, subL_get]
   cases set.getD u false <;> cases win.getD u false <;> rfl
  rw [e]; exact hy

theorem implZero {set mine : List Bool} {b y p : Int} (hb : Bs b set) (hy : Bs y mine) (hp : p = 0 ∨ p = 1) :
  ∃ z, impl_Game_ofZero (O, R, M) b y p = some z ∧ Bs z (bif p == 0 then mine else subL set mine) := by
 unfold impl_Game_ofZero
 rcases hp with rfl | rfl
 ·exact ⟨_, rfl, hy⟩
 ·exact ⟨_, rfl, hb.sub hy⟩

theorem implSolve (g : Game n O R M) {ins : List Bool} {a : Int} (ha : Bs a ins) (l1 : ins.length = n) : ∃ y, impl_Game_solve (O, R, M) a = some y ∧ Bs y (subL ins (winV O R M ins)) := by
 have n2 := g.n2
 have main : impl_Game_solve (O, R, M) a = some (enc (subL (decL n a) (winV O R M (decL n a)))) := by
  unfold impl_Game_solve
  refine recO_size (F := fun slv x => impl_Game_solve_G slv x.1 x.2) (μ := fun a => cnt (decL n a.2)) (I := fun a => a.1 = (O, R, M) ∧ ∃ ins, Bs a.2 ins ∧ ins.length = n) (e := fun a => enc (subL (decL n a.2) (winV O R M (decL n a.2)))) ?_ ((O, R, M), a) ⟨rfl, ins, ha, l1⟩
  rintro slv ⟨g0, a⟩ ⟨rfl, ins, ha, l1⟩ ih
  have ha : Bs a ins := ha
  have ed : decL n a = ins := decL_of ha l1
  have ih : ∀ (b : Int) (l : List Bool), Bs b l → l.length = n → cnt l < cnt ins → ∃ y, slv ((O, R, M), b) = some y ∧ Bs y (subL l (winV O R M l)) := fun b l hb hl hlt => by
   have e2 : decL n b = l := decL_of hb hl
   have := ih ((O, R, M), b) ⟨rfl, l, hb, hl⟩ (by show cnt (decL n b) < cnt (decL n a); rw [e2, ed]; exact hlt)
   refine ⟨_, this, ?_⟩
   show Bs (enc (subL (decL n b) (winV O R M (decL n b)))) _
   rw [e2]
   exact enc_ok (by rw [subL_len]; omega)
  have fin : ∀ {x : Int} {l : List Bool}, Bs x l → l = subL ins (winV O R M ins) → (some x : Option Int) = some (enc (subL (decL n a) (winV O R M (decL n a)))) := fun {x l} hx e => by
   rw [ed]
   subst e
   rw [hx.inj (enc_ok (by rw [subL_len]; omega))]
  show impl_Game_solve_G slv (O, R, M) a = some (enc (subL (decL n a) (winV O R M (decL n a))))
  have hweq := winV_eq g l1
  unfold impl_Game_solve_G
  cases h0 : (a == (0 : Int)) with
  | true =>
   have hz := ha.eq0.1 h0
   simp only [cond_true]
   refine fin (Bs.zero n2) (list_ext (by rw [subL_len]; simp [l1]) fun u hu => ?_)
   rw [subL_get, hz u (by simpa [l1] using hu)]
   simp only [List.getD_eq_getElem?_getD, List.getElem?_replicate]
   split <;> rfl
  | false =>
   have hin : ¬ ∀ v, v < ins.length → ins.getD v false = false := fun h => by rw [ha.eq0.2 h] at h0; cases h0
   rcases rk_cases g l1 with ⟨_, hz⟩ | ⟨hr, hp, _⟩
   ·exact absurd (fun v hv => hz v (by omega)) hin
   ·obtain ⟨x, t1, t2⟩ := implTop g ha l1
    have lt : (topL R ins).length = n := by unfold topL; rw [tab_len]; exact l1
    obtain ⟨q1, q2⟩ := rest_lt g l1 hr
    obtain ⟨_, d2, _, _, d5⟩ := drawV_ok g l1 lt (plI R ins)
    obtain ⟨near, e1, e2⟩ := d5 a x ha t2
    have hrest := ha.sub e2
    have er : subL ins (drawV O R M ins (topL R ins) (plI R ins)) = restV O R M ins := rfl
    rw [er] at hrest
    obtain ⟨y1, s1, s2⟩ := ih _ _ hrest q1 q2
    obtain ⟨z1, z2, z3⟩ := implLost (p := plI R ins) hrest s1 s2 (fun u hu => by
     by_cases hun : u < n
     ·exact winV_in g _ q1 rfl u hun hu
     ·rw [getD_out (by rw [winV_len, q1]; omega)] at hu; cases hu) hp
    have eo : (tab (restV O R M ins).length fun i => (restV O R M ins).getD i false && ((winV O R M (restV O R M ins)).getD i false == (plI R ins == 0))) = otherV O R M ins (winV O R M (restV O R M ins)) := by
     unfold otherV; rw [q1, l1]
    rw [eo] at z3
    have hpl : Int.tmod (rkI R ins) 2 = plI R ins := rfl
    simp only [cond_false, t1, Option.bind_some, hpl, e1, z2]
    have lo : (otherV O R M ins (winV O R M (restV O R M ins))).length = n := by rw [other_len, l1]
    have hrf : decide (rkI R ins < 0) = false := decide_eq_false (by omega)
    cases hy0 : (z1 == (0 : Int)) with
    | true =>
     have hnone := z3.eq0.1 hy0
     have hsome : someV O R M ins (winV O R M (restV O R M ins)) = false := by
      unfold someV
      rw [Bool.eq_false_iff]
      intro h
      rw [List.any_eq_true] at h
      obtain ⟨b, hb, e⟩ := h
      obtain ⟨u, hu, e2⟩ := List.getElem_of_mem hb
      have := hnone u hu
      rw [List.getD_eq_getElem?_getD, List.getElem?_eq_getElem hu, e2] at this
      rw [show id b = b from rfl] at e
      rw [e] at this; cases this
     obtain ⟨z, k1, k2⟩ := implZero (O := O) (R := R) (M := M) (p := plI R ins) ha ha hp
     simp only [cond_true, k1, Option.bind_some]
     refine fin k2 (list_ext ?_ fun u hu => ?_)
     ·rcases hp with hp | hp <;> rw [hp] <;> simp [subL_len]
     ·rw [hweq]
      unfold winStep
      rw [hrf, hsome, subL_get]
      simp only [cond_false]
      have hun : u < ins.length := by
       rcases hp with hp | hp <;> rw [hp] at hu <;> simpa [subL_len] using hu
      rw [tab_get hun]
      rcases hp with hp | hp <;> rw [hp]
      ·show ins.getD u false = _
       cases ins.getD u false <;> rfl
      ·show (subL ins ins).getD u false = _
       rw [subL_get]
       cases ins.getD u false <;> rfl
    | false =>
     have hsome : someV O R M ins (winV O R M (restV O R M ins)) = true := by
      cases hs : someV O R M ins (winV O R M (restV O R M ins)) with
      | true => rfl
      | false =>
       exfalso
       unfold someV at hs
       have : (z1 == (0 : Int)) = true := z3.eq0.2 fun v hv => by
        cases hb : (otherV O R M ins (winV O R M (restV O R M ins))).getD v false with
        | false => rfl
        | true =>
         exfalso
         rw [List.any_eq_false] at hs
         rw [List.getD_eq_getElem?_getD, List.getElem?_eq_getElem hv] at hb
         exact hs _ (List.getElem_mem hv) hb
       rw [this] at hy0; cases hy0
     obtain ⟨q3, q4⟩ := rest2_lt g l1 hsome
     obtain ⟨_, b2, _, b4, b5⟩ := drawV_ok g l1 lo (wsub .i64 1 (plI R ins))
     obtain ⟨gone, f1, f2⟩ := b5 a z1 ha z3
     have hrest2 := ha.sub f2
     have er2 : subL ins (drawV O R M ins (otherV O R M ins (winV O R M (restV O R M ins))) (wsub .i64 1 (plI R ins))) = rest2V O R M ins (winV O R M (restV O R M ins)) := rfl
     rw [er2] at hrest2
     have el : drawV O R M ins (otherV O R M ins (winV O R M (restV O R M ins))) (wsub .i64 1 (plI R ins)) = lostV O R M ins (winV O R M (restV O R M ins)) := rfl
     rw [el] at f2
     obtain ⟨y2, s3, s4⟩ := ih _ _ hrest2 q3 q4
     have hw2 : ∀ u, (winV O R M (rest2V O R M ins (winV O R M (restV O R M ins)))).getD u false = true → (rest2V O R M ins (winV O R M (restV O R M ins))).getD u false = true := fun u hu => by
      by_cases hun : u < n
      ·exact winV_in g _ q3 rfl u hun hu
      ·rw [getD_out (by rw [winV_len, q3]; omega)] at hu; cases hu
     obtain ⟨z4, z5, z6⟩ := implLost (p := plI R ins) hrest2 s3 s4 hw2 hp
     have ll : (lostV O R M ins (winV O R M (restV O R M ins))).length = n := b2
     have hor := f2.or z6 (by rw [ll, tab_len, q3])
     obtain ⟨z7, k1, k2⟩ := implZero (O := O) (R := R) (M := M) (p := plI R ins) ha (ha.sub hor) hp
     simp only [cond_false, f1, Option.bind_some, z5, k1]
     refine fin k2 (list_ext ?_ fun u hu => ?_)
     ·rcases hp with hp | hp <;> rw [hp] <;> simp [subL_len]
     ·rw [hweq]
      unfold winStep
      rw [hrf, hsome, subL_get]
      simp only [cond_false, cond_true]
      have hun : u < ins.length := by
       rcases hp with hp | hp <;> rw [hp] at hu <;> simpa [subL_len] using hu
      rw [tab_get hun]
      have hr2 : (rest2V O R M ins (winV O R M (restV O R M ins))).getD u false = (ins.getD u false && !((lostV O R M ins (winV O R M (restV O R M ins))).getD u false)) := by
       unfold rest2V; rw [subL_get]
      have hor2 := orL_get (l := lostV O R M ins (winV O R M (restV O R M ins))) (m := tab (rest2V O R M ins (winV O R M (restV O R M ins))).length fun i => (rest2V O R M ins (winV O R M (restV O R M ins))).getD i false && ((winV O R M (rest2V O R M ins (winV O R M (restV O R M ins)))).getD i false == (plI R ins == 0))) (v := u) (by omega)
      rw [tab_get (by omega), hr2] at hor2
      have hwu := hw2 u
      rw [hr2] at hwu
      rcases hp with hp | hp <;> rw [hp] at hor2 ⊢
      ·simp only [BEq.rfl, cond_true] at hor2 ⊢
       show (subL ins _).getD u false = _
       rw [subL_get, hor2]
       revert hwu
       cases ins.getD u false <;> cases (lostV O R M ins (winV O R M (restV O R M ins))).getD u false <;> cases (winV O R M (rest2V O R M ins (winV O R M (restV O R M ins)))).getD u false <;> simp
      ·have e10 : ((1 : Int) == 0) = false := rfl
       rw [e10] at hor2 ⊢
       show (subL ins (subL ins _)).getD u false = _
       rw [subL_get, subL_get, hor2]
       revert hwu
       cases ins.getD u false <;> cases (lostV O R M ins (winV O R M (restV O R M ins))).getD u false <;> cases (winV O R M (rest2V O R M ins (winV O R M (restV O R M ins)))).getD u false <;> simp
 refine ⟨_, main, ?_⟩
 rw [decL_of ha l1]
 exact enc_ok (by rw [subL_len]; omega)

noncomputable def solV (O R : List Int) (M : List (List Int)) : List Int := (List.range O.length).map fun i => bif (winV O R M (List.replicate O.length true)).getD i false then (1 : Int) else 0

theorem solV_len (O R : List Int) (M : List (List Int)) : (solV O R M).length = O.length := by simp [solV]

theorem specSolve (g : Game n O R M) : spec_l07Solve (O, R, M) = some (solV O R M) := by
 have n2 := g.n2
 have lo := g.lo
 have jb : (0 : Int) ≤ lenI O ∧ lenI O ≤ 4294967296 := by simp only [lenI]; omega
 have e0 : Int.toNat (lenI O) = n := by simp [lenI, lo]
 have ha : rounds (spec_l07Solve_B2 (O, R, M)) ((0 : Int), List.replicate n false) = some (List.replicate n true) := by
  rw [setLoop (f := spec_l07Solve_B2 (O, R, M)) (n := n) (fun _ => true) (fun i out hi ho => by
   unfold spec_l07Solve_B2
   simp only [e0, lenI, List.length_replicate, ltN hi, cond_true, Int.toNat_natCast, ho, nextN hi (show n ≤ 4294967296 by omega), guard_pos (idxN hi), lo]) (fun out => by
   unfold spec_l07Solve_B2
   simp only [lenI, List.length_replicate, lo, Int.toNat_natCast, geN (Nat.le_refl _), cond_false])]
  congr 1
  exact list_ext (by simp [tab_len]) fun v hv => by
   rw [tab_len] at hv
   rw [tab_get hv]
   simp [List.getD_eq_getElem?_getD, List.getElem?_replicate, hv]
 have lw : (winV O R M (List.replicate n true)).length = n := by rw [winV_len]; simp
 have hb := loop_app (f := spec_l07Solve_B1 (winV O R M (List.replicate n true))) (fun i => bif (winV O R M (List.replicate n true)).getD i false then (1 : Int) else 0) n [] (fun i out hi ho => by
  have hg : ∀ b : Int, List.length out + List.length ([b] : List Int) ≤ appMax := fun b => by simp only [List.length_singleton, appMax, ho, List.length_nil]; omega
  unfold spec_l07Solve_B1
  simp only [lenI, lw, ltN hi, cond_true, Int.toNat_natCast, nextN hi (show n ≤ 4294967296 by omega), guard_pos (idxN hi), guard_pos (hg _)]
  cases (winV O R M (List.replicate n true)).getD i false <;> rfl) (fun out => by
  unfold spec_l07Solve_B1
  simp only [lenI, lw, geN (Nat.le_refl _), cond_false])
 unfold spec_l07Solve
 simp only [guard_pos jb, e0, ha, Option.bind_some, specWin g (List.length_replicate ..), hb]
 unfold solV
 rw [lo]; rfl

theorem implWinners (g : Game n O R M) : impl_Game_winners (O, R, M) = some (solV O R M) := by
 have n1 := g.n1
 have n2 := g.n2
 have lo := g.lo
 have ja : (0 : Int) ≤ lenI O := by simp only [lenI]; omega
 have e0 : Int.toNat (lenI O) = n := by simp [lenI, lo]
 obtain ⟨y, h1, h2⟩ := implSolve g (Bs.all n2 n1) (List.length_replicate ..)
 have hb := loop_app (f := impl_Game_winners_B1 (O, R, M) y) (fun i => bif (winV O R M (List.replicate n true)).getD i false then (1 : Int) else 0) n [] (fun i out hi ho => by
  have hg : ∀ b : Int, List.length out + List.length ([b] : List Int) ≤ appMax := fun b => by simp only [List.length_singleton, appMax, ho, List.length_nil]; omega
  have j3 : (0 : Int) ≤ (i : Int) := Int.natCast_nonneg _
  have hv : (IntKind.wrap .u32 (((BitVec.ofInt (IntKind.bits .u32) (Int.fdiv y (2 ^ (min i (IntKind.bits .u32)))) &&& BitVec.ofInt (IntKind.bits .u32) (1 : Int)).toNat : Nat) : Int)) = if (!((winV O R M (List.replicate n true)).getD i false)) then 1 else 0 := by
   obtain ⟨_, N, rfl, hN, hbb⟩ := h2
   rw [bit_val hN (by omega), hbb, subL_get]
   have : (List.replicate n true).getD i false = true := by simp [List.getD_eq_getElem?_getD, List.getElem?_replicate, hi]
   rw [this, Bool.true_and]
  unfold impl_Game_winners_B1
  simp only [lenI, lo, ltN hi, cond_true, Int.toNat_natCast, nextN hi (show n ≤ 4294967296 by omega), guard_pos j3, guard_pos (hg _), hv]
  cases (winV O R M (List.replicate n true)).getD i false <;> rfl) (fun out => by
  unfold impl_Game_winners_B1
  simp only [lenI, lo, geN (Nat.le_refl _), cond_false])
 unfold impl_Game_winners impl_Game_all
 simp only [guard_pos ja, e0, Option.bind_some, h1, hb]
 unfold solV
 rw [lo]; rfl

end

end Go.Proofs


/-
 IsWinning, MovesOfGame.
-/
namespace Go.Proofs
open Go.Ide Go.IntWalk

theorem repeatNone : ∀ n : Nat, n ≤ 16 → slices_Repeat___int64_int64 [(-1 : Int)] (n : Int) = some (List.replicate n (-1 : Int))
 | 0, _ => by
  have e : slices_Repeat___int64_int64 [(-1 : Int)] ((0 : Nat) : Int) = (rounds slices_Repeat___int64_int64_B1 ((0 : Int), ([] : List Int))).bind fun r => some r := by kernel_rfl
  rw [e, rounds_iff.2 ⟨2, show Go.Ide.runN slices_Repeat___int64_int64_B1 2 ((0 : Int), ([] : List Int)) = some (List.replicate 0 (-1 : Int)) by kernel_rfl⟩]; rfl
 | 1, _ => by
  have e : slices_Repeat___int64_int64 [(-1 : Int)] ((1 : Nat) : Int) = (rounds slices_Repeat___int64_int64_B1 ((1 : Int), [(-1 : Int)])).bind fun r => some r := by kernel_rfl
  rw [e, rounds_iff.2 ⟨2, show Go.Ide.runN slices_Repeat___int64_int64_B1 2 ((1 : Int), [(-1 : Int)]) = some (List.replicate 1 (-1 : Int)) by kernel_rfl⟩]; rfl
 | 2, _ => by
  have e : slices_Repeat___int64_int64 [(-1 : Int)] ((2 : Nat) : Int) = (rounds slices_Repeat___int64_int64_B1 ((1 : Int), [(-1 : Int), (0 : Int)])).bind fun r => some r := by kernel_rfl
  rw [e, rounds_iff.2 ⟨3, show Go.Ide.runN slices_Repeat___int64_int64_B1 3 ((1 : Int), [(-1 : Int), (0 : Int)]) = some (List.replicate 2 (-1 : Int)) by kernel_rfl⟩]; rfl
 | 3, _ => by
  have e : slices_Repeat___int64_int64 [(-1 : Int)] ((3 : Nat) : Int) = (rounds slices_Repeat___int64_int64_B1 ((1 : Int), [(-1 : Int), (0 : Int), (0 : Int)])).bind fun r => some r := by kernel_rfl
  rw [e, rounds_iff.2 ⟨4, show Go.Ide.runN slices_Repeat___int64_int64_B1 4 ((1 : Int), [(-1 : Int), (0 : Int), (0 : Int)]) = some (List.replicate 3 (-1 : Int)) by kernel_rfl⟩]; rfl
 | 4, _ => by
  have e : slices_Repeat___int64_int64 [(-1 : Int)] ((4 : Nat) : Int) = (rounds slices_Repeat___int64_int64_B1 ((1 : Int), [(-1 : Int), (0 : Int), (0 : Int), (0 : Int)])).bind fun r => some r := by kernel_rfl
  rw [e, rounds_iff.2 ⟨4, show Go.Ide.runN slices_Repeat___int64_int64_B1 4 ((1 : Int), [(-1 : Int), (0 : Int), (0 : Int), (0 : Int)]) = some (List.replicate 4 (-1 : Int)) by kernel_rfl⟩]; rfl
 | 5, _ => by
  have e : slices_Repeat___int64_int64 [(-1 : Int)] ((5 : Nat) : Int) = (rounds slices_Repeat___int64_int64_B1 ((1 : Int), [(-1 : Int), (0 : Int), (0 : Int), (0 : Int), (0 : Int)])).bind fun r => some r := by kernel_rfl
  rw [e, rounds_iff.2 ⟨5, show Go.Ide.runN slices_Repeat___int64_int64_B1 5 ((1 : Int), [(-1 : Int), (0 : Int), (0 : Int), (0 : Int), (0 : Int)]) = some (List.replicate 5 (-1 : Int)) by kernel_rfl⟩]; rfl
 | 6, _ => by
  have e : slices_Repeat___int64_int64 [(-1 : Int)] ((6 : Nat) : Int) = (rounds slices_Repeat___int64_int64_B1 ((1 : Int), [(-1 : Int), (0 : Int), (0 : Int), (0 : Int), (0 : Int), (0 : Int)])).bind fun r => some r := by kernel_rfl
  rw [e, rounds_iff.2 ⟨5, show Go.Ide.runN slices_Repeat___int64_int64_B1 5 ((1 : Int), [(-1 : Int), (0 : Int), (0 : Int), (0 : Int), (0 : Int), (0 : Int)]) = some (List.replicate 6 (-1 : Int)) by kernel_rfl⟩]; rfl
 | 7, _ => by
  have e : slices_Repeat___int64_int64 [(-1 : Int)] ((7 : Nat) : Int) = (rounds slices_Repeat___int64_int64_B1 ((1 : Int), [(-1 : Int), (0 : Int), (0 : Int), (0 : Int), (0 : Int), (0 : Int), (0 : Int)])).bind fun r => some r := by kernel_rfl
  rw [e, rounds_iff.2 ⟨5, show Go.Ide.runN slices_Repeat___int64_int64_B1 5 ((1 : Int), [(-1 : Int), (0 : Int), (0 : Int), (0 : Int), (0 : Int), (0 : Int), (0 : Int)]) = some (List.replicate 7 (-1 : Int)) by kernel_rfl⟩]; rfl
 | 8, _ => by
  have e : slices_Repeat___int64_int64 [(-1 : Int)] ((8 : Nat) : Int) = (rounds slices_Repeat___int64_int64_B1 ((1 : Int), [(-1 : Int), (0 : Int), (0 : Int), (0 : Int), (0 : Int), (0 : Int), (0 : Int), (0 : Int)])).bind fun r => some r := by kernel_rfl
  rw [e, rounds_iff.2 ⟨5, show Go.Ide.runN slices_Repeat___int64_int64_B1 5 ((1 : Int), [(-1 : Int), (0 : Int), (0 : Int), (0 : Int), (0 : Int), (0 : Int), (0 : Int), (0 : Int)]) = some (List.replicate 8 (-1 : Int)) by kernel_rfl⟩]; rfl
 | 9, _ => by
  have e : slices_Repeat___int64_int64 [(-1 : Int)] ((9 : Nat) : Int) = (rounds slices_Repeat___int64_int64_B1 ((1 : Int), [(-1 : Int), (0 : Int), (0 : Int), (0 : Int), (0 : Int), (0 : Int), (0 : Int), (0 : Int), (0 : Int)])).bind fun r => some r := by kernel_rfl
  rw [e, rounds_iff.2 ⟨6, show Go.Ide.runN slices_Repeat___int64_int64_B1 6 ((1 : Int), [(-1 : Int), (0 : Int), (0 : Int), (0 : Int), (0 : Int), (0 : Int), (0 : Int), (0 : Int), (0 : Int)]) = some (List.replicate 9 (-1 : Int)) by kernel_rfl⟩]; rfl
 | 10, _ => by
  have e : slices_Repeat___int64_int64 [(-1 : Int)] ((10 : Nat) : Int) = (rounds slices_Repeat___int64_int64_B1 ((1 : Int), [(-1 : Int), (0 : Int), (0 : Int), (0 : Int), (0 : Int), (0 : Int), (0 : Int), (0 : Int), (0 : Int), (0 : Int)])).bind fun r => some r := by kernel_rfl
  rw [e, rounds_iff.2 ⟨6, show Go.Ide.runN slices_Repeat___int64_int64_B1 6 ((1 : Int), [(-1 : Int), (0 : Int), (0 : Int), (0 : Int), (0 : Int), (0 : Int), (0 : Int), (0 : Int), (0 : Int), (0 : Int)]) = some (List.replicate 10 (-1 : Int)) by kernel_rfl⟩]; rfl
 | 11, _ => by
  have e : slices_Repeat___int64_int64 [(-1 : Int)] ((11 : Nat) : Int) = (rounds slices_Repeat___int64_int64_B1 ((1 : Int), [(-1 : Int), (0 : Int), (0 : Int), (0 : Int), (0 : Int), (0 : Int), (0 : Int), (0 : Int), (0 : Int), (0 : Int), (0 : Int)])).bind fun r => some r := by kernel_rfl
  rw [e, rounds_iff.2 ⟨6, show Go.Ide.runN slices_Repeat___int64_int64_B1 6 ((1 : Int), [(-1 : Int), (0 : Int), (0 : Int), (0 : Int), (0 : Int), (0 : Int), (0 : Int), (0 : Int), (0 : Int), (0 : Int), (0 : Int)]) = some (List.replicate 11 (-1 : Int)) by kernel_rfl⟩]; rfl
 | 12, _ => by
  have e : slices_Repeat___int64_int64 [(-1 : Int)] ((12 : Nat) : Int) = (rounds slices_Repeat___int64_int64_B1 ((1 : Int), [(-1 : Int), (0 : Int), (0 : Int), (0 : Int), (0 : Int), (0 : Int), (0 : Int), (0 : Int), (0 : Int), (0 : Int), (0 : Int), (0 : Int)])).bind fun r => some r := by kernel_rfl
  rw [e, rounds_iff.2 ⟨6, show Go.Ide.runN slices_Repeat___int64_int64_B1 6 ((1 : Int), [(-1 : Int), (0 : Int), (0 : Int), (0 : Int), (0 : Int), (0 : Int), (0 : Int), (0 : Int), (0 : Int), (0 : Int), (0 : Int), (0 : Int)]) = some (List.replicate 12 (-1 : Int)) by kernel_rfl⟩]; rfl
 | 13, _ => by
  have e : slices_Repeat___int64_int64 [(-1 : Int)] ((13 : Nat) : Int) = (rounds slices_Repeat___int64_int64_B1 ((1 : Int), [(-1 : Int), (0 : Int), (0 : Int), (0 : Int), (0 : Int), (0 : Int), (0 : Int), (0 : Int), (0 : Int), (0 : Int), (0 : Int), (0 : Int), (0 : Int)])).bind fun r => some r := by kernel_rfl
  rw [e, rounds_iff.2 ⟨6, show Go.Ide.runN slices_Repeat___int64_int64_B1 6 ((1 : Int), [(-1 : Int), (0 : Int), (0 : Int), (0 : Int), (0 : Int), (0 : Int), (0 : Int), (0 : Int), (0 : Int), (0 : Int), (0 : Int), (0 : Int), (0 : Int)]) = some (List.replicate 13 (-1 : Int)) by kernel_rfl⟩]; rfl
 | 14, _ => by
  have e : slices_Repeat___int64_int64 [(-1 : Int)] ((14 : Nat) : Int) = (rounds slices_Repeat___int64_int64_B1 ((1 : Int), [(-1 : Int), (0 : Int), (0 : Int), (0 : Int), (0 : Int), (0 : Int), (0 : Int), (0 : Int), (0 : Int), (0 : Int), (0 : Int), (0 : Int), (0 : Int), (0 : Int)])).bind fun r => some r := by kernel_rfl
  rw [e, rounds_iff.2 ⟨6, show Go.Ide.runN slices_Repeat___int64_int64_B1 6 ((1 : Int), [(-1 : Int), (0 : Int), (0 : Int), (0 : Int), (0 : Int), (0 : Int), (0 : Int), (0 : Int), (0 : Int), (0 : Int), (0 : Int), (0 : Int), (0 : Int), (0 : Int)]) = some (List.replicate 14 (-1 : Int)) by kernel_rfl⟩]; rfl
 | 15, _ => by
  have e : slices_Repeat___int64_int64 [(-1 : Int)] ((15 : Nat) : Int) = (rounds slices_Repeat___int64_int64_B1 ((1 : Int), [(-1 : Int), (0 : Int), (0 : Int), (0 : Int), (0 : Int), (0 : Int), (0 : Int), (0 : Int), (0 : Int), (0 : Int), (0 : Int), (0 : Int), (0 : Int), (0 : Int), (0 : Int)])).bind fun r => some r := by kernel_rfl
  rw [e, rounds_iff.2 ⟨6, show Go.Ide.runN slices_Repeat___int64_int64_B1 6 ((1 : Int), [(-1 : Int), (0 : Int), (0 : Int), (0 : Int), (0 : Int), (0 : Int), (0 : Int), (0 : Int), (0 : Int), (0 : Int), (0 : Int), (0 : Int), (0 : Int), (0 : Int), (0 : Int)]) = some (List.replicate 15 (-1 : Int)) by kernel_rfl⟩]; rfl
 | 16, _ => by
  have e : slices_Repeat___int64_int64 [(-1 : Int)] ((16 : Nat) : Int) = (rounds slices_Repeat___int64_int64_B1 ((1 : Int), [(-1 : Int), (0 : Int), (0 : Int), (0 : Int), (0 : Int), (0 : Int), (0 : Int), (0 : Int), (0 : Int), (0 : Int), (0 : Int), (0 : Int), (0 : Int), (0 : Int), (0 : Int), (0 : Int)])).bind fun r => some r := by kernel_rfl
  rw [e, rounds_iff.2 ⟨6, show Go.Ide.runN slices_Repeat___int64_int64_B1 6 ((1 : Int), [(-1 : Int), (0 : Int), (0 : Int), (0 : Int), (0 : Int), (0 : Int), (0 : Int), (0 : Int), (0 : Int), (0 : Int), (0 : Int), (0 : Int), (0 : Int), (0 : Int), (0 : Int), (0 : Int)]) = some (List.replicate 16 (-1 : Int)) by kernel_rfl⟩]; rfl
 | _ + 17, h => by omega

theorem clone_ok {α : Type} {xs : List α} (h : xs.length ≤ 1048576) : slices_Clone xs = some xs := by
 unfold slices_Clone
 rw [guard_pos (by simp only [appMax]; omega)]

theorem ownGame {O R : List Int} {M : List (List Int)} (h1 : O.length ≤ 1048576) (h2 : R.length ≤ 1048576) (h3 : M.length ≤ 1048576) (hh : ∀ y ∈ M, y.length ≤ 1048576) : spec_l07OwnGame (O, R, M) = some (O, R, M) := by
 have := loop_app (f := spec_l07OwnGame_B1 (O, R, M)) (fun i => M.getD i []) M.length [] (fun i out hi ho => by
  have hl := hh _ (mem_getD hi [])
  unfold spec_l07OwnGame_B1
  simp only [lenI, ltN hi, cond_true, Int.toNat_natCast, nextN hi (show M.length ≤ 4294967296 by omega)]
  rw [guard_pos (idxN hi), guard_pos (by simp only [appMax]; omega), guard_pos (by simp only [List.length_singleton, appMax, ho, List.length_nil]; omega)]) (fun out => by
  unfold spec_l07OwnGame_B1
  simp only [lenI, geN (Nat.le_refl _), cond_false])
 unfold spec_l07OwnGame
 rw [guard_pos (by simp only [appMax]; omega), guard_pos (by simp only [appMax]; omega), this, List.nil_append]
 have e : (List.range M.length).map (fun i => M.getD i []) = M := by
  refine List.ext_getElem (by simp) fun i q1 q2 => ?_
  simp [List.getD_eq_getElem?_getD, q2]
 rw [e]; rfl

theorem same64 {xs ys : List Int} (h : xs.length ≤ 1048576) : ∃ b, spec_l00Same xs ys = some b ∧ slices_Equal___int64_int64 xs ys = some b := by
 have e : spec_l00Same xs ys = slices_Equal___int64_int64 xs ys := rfl
 rw [e]
 unfold slices_Equal___int64_int64
 cases hl : (lenI xs != lenI ys) with
 | true => exact ⟨_, rfl, rfl⟩
 | false =>
  have hl : xs.length = ys.length := by
   have := hl
   simp only [bne_eq_false_iff_eq, lenI] at this
   omega
  have := rounds_all (f := slices_Equal___int64_int64_B1 xs ys) (fun i => ((i : Nat) : Int)) (fun i => !(xs.getD i 0 != ys.getD i 0)) (Sum.inl ()) (Sum.inr ()) (n := xs.length) (fun i hi => by
   unfold slices_Equal___int64_int64_B1
   simp only [lenI, ltN hi, cond_true, Int.toNat_natCast, nextN hi (show xs.length ≤ 4294967296 by omega), guard_pos (idxN hi), guard_pos (idxN (show i < ys.length by omega))]
   cases (xs.getD i 0 != ys.getD i 0) <;> rfl) (by
   unfold slices_Equal___int64_int64_B1
   simp only [lenI, geN (Nat.le_refl _), cond_false]) xs.length 0 (by omega)
  simp only [Int.natCast_zero] at this
  simp only [cond_false]
  rw [this]
  cases allN (fun i => !(xs.getD i 0 != ys.getD i 0)) xs.length 0 <;> exact ⟨_, rfl, rfl⟩

def hasB (xs : List Int) (a : Int) : Bool := !(allN (fun i => !(xs.getD i 0 == a)) xs.length 0)

theorem specHas {xs : List Int} {a : Int} (h : xs.length ≤ 1048576) : spec_l00Has xs a = some (hasB xs a) := by
 have := rounds_all (f := spec_l00Has_B1 xs a) (fun i => ((i : Nat) : Int)) (fun i => !(xs.getD i 0 == a)) (Sum.inl ()) (Sum.inr ()) (n := xs.length) (fun i hi => by
  unfold spec_l00Has_B1
  simp only [lenI, ltN hi, cond_true, Int.toNat_natCast, nextN hi (show xs.length ≤ 4294967296 by omega), guard_pos (idxN hi)]
  cases (xs.getD i 0 == a) <;> rfl) (by
  unfold spec_l00Has_B1
  simp only [lenI, geN (Nat.le_refl _), cond_false]) xs.length 0 (by omega)
 simp only [Int.natCast_zero] at this
 unfold spec_l00Has hasB
 rw [this]
 cases allN (fun i => !(xs.getD i 0 == a)) xs.length 0 <;> rfl

theorem implHas {xs : List Int} {a : Int} (h : xs.length ≤ 1048576) : slices_Contains___int64_int64 xs a = some (hasB xs a) := by
 obtain ⟨j, this⟩ := rounds_find2 (f := slices_Index___int64_int64_B1 xs a) (fun i => ((i : Nat) : Int)) (fun i => !(xs.getD i 0 == a)) (Sum.inl ()) (fun i => Sum.inr ((i : Nat) : Int)) (n := xs.length) (fun i hi => by
  unfold slices_Index___int64_int64_B1
  simp only [lenI, ltN hi, cond_true, Int.toNat_natCast, nextN hi (show xs.length ≤ 4294967296 by omega), guard_pos (idxN hi)]
  have e : (a == xs.getD i 0) = (xs.getD i 0 == a) := by rw [Bool.eq_iff_iff, beq_iff_eq, beq_iff_eq]; exact ⟨fun h => h.symm, fun h => h.symm⟩
  rw [e]
  cases (xs.getD i 0 == a) <;> rfl) (by
  unfold slices_Index___int64_int64_B1
  simp only [lenI, geN (Nat.le_refl _), cond_false]) xs.length 0 (by omega)
 simp only [Int.natCast_zero] at this
 unfold slices_Contains___int64_int64 slices_Index___int64_int64 hasB
 rw [this]
 cases allN (fun i => !(xs.getD i 0 == a)) xs.length 0 with
 | true => rfl
 | false =>
  simp only [cond_false, Option.bind_some, ge_iff_le]
  rw [decide_eq_true (Int.natCast_nonneg j)]
  rfl

theorem has_in {n : Nat} {xs : List Int} {a : Int} (hx : ∀ k, k < xs.length → ∃ q : Nat, xs.getD k 0 = (q : Int) ∧ q < n) (h : hasB xs a = true) : ∃ q : Nat, a = (q : Int) ∧ q < n := by
 unfold hasB at h
 rw [Bool.not_eq_true'] at h
 have : ¬ ∀ j, 0 ≤ j → j < 0 + xs.length → (!(xs.getD j 0 == a)) = true := fun hall => by rw [allN_iff.2 hall] at h; cases h
 refine Classical.byContradiction fun hn => this fun j _ hj => ?_
 obtain ⟨q, hq, hqn⟩ := hx j (by omega)
 rw [Bool.not_eq_true', beq_eq_false_iff_ne]
 intro e
 exact hn ⟨q, by rw [← e, hq], hqn⟩

section
variable {n : Nat} {O R W mv : List Int} {M : List (List Int)}

def nowAt (O W mv : List Int) (M : List (List Int)) (i : Nat) : List Int := bif O.getD i 0 == W.getD i 0 then [mv.getD i 0] else M.getD i []
def nowL (n : Nat) (O W mv : List Int) (M : List (List Int)) (k : Nat) : List (List Int) := (List.range n).map fun i => bif decide (i < k) then nowAt O W mv M i else M.getD i []

theorem nowL_len (k : Nat) : (nowL n O W mv M k).length = n := by simp [nowL]
theorem nowL_get {k i : Nat} (hi : i < n) : (nowL n O W mv M k).getD i [] = bif decide (i < k) then nowAt O W mv M i else M.getD i [] := by
 unfold nowL; simp [List.getD_eq_getElem?_getD, hi]

theorem nowL_zero (hl : M.length = n) : nowL n O W mv M 0 = M := by
 refine List.ext_getElem (by rw [nowL_len, hl]) fun i q1 q2 => ?_
 have h1 := nowL_get (n := n) (O := O) (W := W) (mv := mv) (M := M) (k := 0) (i := i) (by omega)
 simp only [List.getD_eq_getElem?_getD, List.getElem?_eq_getElem q1, List.getElem?_eq_getElem q2] at h1
 simpa using h1

theorem row_ext {xs ys : List (List Int)} (hl : xs.length = ys.length) (h : ∀ i, i < xs.length → xs.getD i [] = ys.getD i []) : xs = ys := by
 refine List.ext_getElem hl fun i q1 q2 => ?_
 have := h i q1
 simpa [List.getD_eq_getElem?_getD, q1, q2] using this

theorem nowL_succ {k : Nat} (hk : k < n) : nowL n O W mv M (k + 1) = bif O.getD k 0 == W.getD k 0 then (nowL n O W mv M k).set k [mv.getD k 0] else nowL n O W mv M k := by
 have ed : ∀ i, i ≠ k → decide (i < k + 1) = decide (i < k) := fun i e => by
  by_cases h : i < k
  ·rw [decide_eq_true h, decide_eq_true (by omega)]
  ·rw [decide_eq_false h, decide_eq_false (by omega)]
 cases hc : (O.getD k 0 == W.getD k 0) with
 | true =>
  simp only [cond_true]
  refine row_ext (by simp [nowL_len]) fun i hi => ?_
  rw [nowL_len] at hi
  rw [nowL_get hi]
  by_cases e : i = k
  ·subst e
   rw [decide_eq_true (by omega)]
   unfold nowAt
   rw [hc]
   simp [List.getD_eq_getElem?_getD, nowL_len, hi]
  ·rw [ed i e, ← nowL_get hi]
   simp only [List.getD_eq_getElem?_getD]
   rw [List.getElem?_set_ne (fun h => e h.symm)]
 | false =>
  simp only [cond_false]
  refine row_ext (by simp [nowL_len]) fun i hi => ?_
  rw [nowL_len] at hi
  rw [nowL_get hi, nowL_get hi]
  by_cases e : i = k
  ·subst e
   rw [decide_eq_true (by omega), decide_eq_false (by omega)]
   unfold nowAt
   rw [hc]; rfl
  ·rw [ed i e]

def okW (W : List Int) (i : Nat) : Bool := decide (W.getD i 0 ≥ 0) && decide (W.getD i 0 ≤ 1)
def okM (O W mv : List Int) (M : List (List Int)) (i : Nat) : Bool := bif O.getD i 0 == W.getD i 0 then hasB (M.getD i []) (mv.getD i 0) else mv.getD i 0 == -1
def succB (W row : List Int) (i : Nat) : Bool := allN (fun k => !(W.getD (row.getD k 0).toNat 0 != W.getD i 0)) row.length 0

theorem nowAt_in (g : Game n O R M) {i : Nat} (hi : i < n) (hok : okM O W mv M i = true) : (nowAt O W mv M i).length ≤ 1048576 ∧ ∀ k, k < (nowAt O W mv M i).length → ∃ q : Nat, (nowAt O W mv M i).getD k 0 = (q : Int) ∧ q < n := by
 unfold okM at hok
 unfold nowAt
 cases hc : (O.getD i 0 == W.getD i 0) with
 | true =>
  rw [hc] at hok
  simp only [cond_true] at hok ⊢
  refine ⟨by simp, fun k hk => ?_⟩
  have : k = 0 := by simpa using hk
  subst this
  exact has_in (g.mv i hi) hok
 | false => exact ⟨g.ml i hi, g.mv i hi⟩

theorem succLoop {f : Int → Option (Int ⊕ (Unit ⊕ Unit))} {row : List Int} {i : Nat} (lw : W.length = n) (hi : i < n) (hl : row.length ≤ 1048576) (hr : ∀ k, k < row.length → ∃ q : Nat, row.getD k 0 = (q : Int) ∧ q < n)
  (hf : ∀ k, k < row.length → f ((k : Nat) : Int) = guardP ((0 : Int) ≤ row.getD k 0 ∧ row.getD k 0 < lenI W) (guardP ((0 : Int) ≤ (i : Int) ∧ (i : Int) < lenI W) (bif W.getD (row.getD k 0).toNat 0 != W.getD i 0 then some (.inr (.inr ())) else some (.inl ((k + 1 : Nat) : Int)))))
  (he : f ((row.length : Nat) : Int) = some (.inr (.inl ()))) : rounds f (0 : Int) = some (bif succB W row i then .inl () else .inr ()) := by
 have := rounds_all (f := f) (fun i => ((i : Nat) : Int)) (fun k => !(W.getD (row.getD k 0).toNat 0 != W.getD i 0)) (Sum.inl ()) (Sum.inr ()) (n := row.length) (fun k hk => by
  obtain ⟨q, hq, hqn⟩ := hr k hk
  have jq : (0 : Int) ≤ row.getD k 0 ∧ row.getD k 0 < lenI W := by rw [hq]; simp only [lenI]; omega
  have ji : (0 : Int) ≤ (i : Int) ∧ (i : Int) < lenI W := by simp only [lenI]; omega
  rw [hf k hk, guard_pos jq, guard_pos ji]
  cases (W.getD (row.getD k 0).toNat 0 != W.getD i 0) <;> rfl) he row.length 0 (by omega)
 simpa [succB] using this

theorem IsWinning_same (g : Game n O R M) (hM : ∀ y ∈ M, y.length ≤ 1048576) (lw : W.length = n) (lv : mv.length = n) (hW : W.length ≤ 1048576) :
  ∃ b, (spec_l07OwnGame (O, R, M)).bind (fun y5 => (rounds (spec_IsWinning_B3 (O, R, M) W mv) ((0 : Int), y5.2.2)).bind fun r8 => match r8 with
   | .inl r9 =>
    (rounds (spec_IsWinning_B2 W r9) (0 : Int)).bind fun r11 => match r11 with
     | .inl r12 =>
      (spec_l07Solve (y5.1, y5.2.1, r9)).bind fun y13 =>
      (spec_l00Same y13 W).bind fun y15 =>
      some y15
     | .inr r17 =>
      some false
   | .inr r37 =>
    some false) = some b ∧
   (bif (!(allIn W 0 1)) then some false else (slices_Clone M).bind fun y5 =>
  (rounds (impl_IsWinning_B2 (O, R, M) W mv) ((0 : Int), y5)).bind fun r8 => match r8 with
   | .inl r9 =>
    (impl_Game_winners (O, R, r9)).bind fun y10 =>
    (slices_Equal___int64_int64 y10 W).bind fun y12 =>
    some y12
   | .inr r14 =>
    some false) = some b := by
 have n2 := g.n2
 have lo := g.lo
 have lr := g.lr
 have lm := g.lm
 have hz := nowL_zero (n := n) (O := O) (W := W) (mv := mv) (M := M) lm
 rw [ownGame (by omega) (by omega) (by omega) hM, clone_ok (xs := M) (by omega)]
 simp only [Option.bind_some]
 have h3 := rounds_all (f := spec_IsWinning_B3 (O, R, M) W mv) (fun i => (((i : Nat) : Int), nowL n O W mv M i)) (fun i => okW W i && okM O W mv M i) (Sum.inl (nowL n O W mv M n)) (Sum.inr ()) (n := n) (fun i hi => by
  have hl := g.ml i hi
  unfold spec_IsWinning_B3 okW okM
  rw [nowL_succ hi]
  simp only [lenI, lw, lo, lm, lv, nowL_len, ltN hi, cond_true, Int.toNat_natCast, nextN hi (show n ≤ 4294967296 by omega), guard_pos (idxN hi), in64, Option.bind_some, specHas hl, bne]
  cases (decide (W.getD i 0 ≥ 0) && decide (W.getD i 0 ≤ 1)) with
  | false => rfl
  | true =>
   cases (O.getD i 0 == W.getD i 0) with
   | true =>
    simp only [Bool.not_true, cond_false, cond_true, Bool.true_and]
    cases hasB (M.getD i []) (mv.getD i 0) <;> rfl
   | false =>
    simp only [Bool.not_false, Bool.not_true, cond_false, cond_true, Bool.true_and]
    cases (mv.getD i 0 == -1) <;> rfl) (by
  unfold spec_IsWinning_B3
  simp only [lenI, lw, geN (Nat.le_refl _), cond_false]) n 0 (by omega)
 have h4 := rounds_all (f := impl_IsWinning_B2 (O, R, M) W mv) (fun i => (((i : Nat) : Int), nowL n O W mv M i)) (fun i => okM O W mv M i && succB W (nowAt O W mv M i) i) (Sum.inl (nowL n O W mv M n)) (Sum.inr ()) (n := n) (fun i hi => by
  have hl := g.ml i hi
  have hok0 := nowAt_in (W := W) (mv := mv) g hi
  have hs := nowL_succ (n := n) (O := O) (W := W) (mv := mv) (M := M) hi
  have hg := nowL_get (n := n) (O := O) (W := W) (mv := mv) (M := M) (k := i + 1) hi
  rw [decide_eq_true (by omega), cond_true] at hg
  have inner : okM O W mv M i = true → rounds (impl_IsWinning_B1 W (((i : Nat) : Int), nowL n O W mv M i) (nowL n O W mv M (i + 1))) (0 : Int) = some (bif succB W (nowAt O W mv M i) i then .inl () else .inr ()) := fun hok => by
   obtain ⟨a1, a2⟩ := hok0 hok
   refine succLoop lw hi a1 a2 (fun k hk => ?_) ?_
   ·unfold impl_IsWinning_B1
    simp only [Int.toNat_natCast, hg]
    simp only [lenI, ltN hk, cond_true, nextN hk (show (nowAt O W mv M i).length ≤ 4294967296 by omega)]
    rw [guard_pos (idxN hk)]
   ·unfold impl_IsWinning_B1
    simp only [Int.toNat_natCast, hg]
    simp only [lenI, geN (Nat.le_refl _), cond_false]
  rw [hs] at inner
  unfold impl_IsWinning_B2
  rw [hs]
  unfold okM at inner ⊢
  simp only [lenI, lw, lo, lm, lv, nowL_len, ltN hi, cond_true, Int.toNat_natCast, nextN hi (show n ≤ 4294967296 by omega), guard_pos (idxN hi), Option.bind_some, implHas hl, bne]
  cases hc : (O.getD i 0 == W.getD i 0) with
  | true =>
   rw [hc] at inner
   simp only [cond_true] at inner ⊢
   cases hh : hasB (M.getD i []) (mv.getD i 0) with
   | false => rfl
   | true =>
    have inner := inner hh
    simp only [Bool.not_true, cond_false, Bool.true_and, Option.bind_some, List.length_set, nowL_len, guard_pos (idxN hi), inner]
    cases succB W (nowAt O W mv M i) i <;> rfl
  | false =>
   rw [hc] at inner
   simp only [cond_false] at inner ⊢
   cases hh : (mv.getD i 0 == -1) with
   | false => rfl
   | true =>
    have inner := inner hh
    simp only [Bool.not_true, cond_false, Bool.true_and, Option.bind_some, nowL_len, guard_pos (idxN hi), inner]
    cases succB W (nowAt O W mv M i) i <;> rfl) (by
  unfold impl_IsWinning_B2
  simp only [lenI, lo, geN (Nat.le_refl _), cond_false]) n 0 (by omega)
 simp only [Int.natCast_zero, hz] at h3 h4
 rw [h3, h4, allN_and2 (fun i => okW W i) (fun i => okM O W mv M i), allN_and2 (fun i => okM O W mv M i) (fun i => succB W (nowAt O W mv M i) i)]
 have hWin : allN (fun i => okW W i) n 0 = allIn W 0 1 := by
  have := allN_in W 0 1
  rw [lw] at this
  exact this
 rw [hWin]
 cases allIn W 0 1 with
 | false => exact ⟨false, rfl, rfl⟩
 | true =>
  cases hm : allN (fun i => okM O W mv M i) n 0 with
  | false => exact ⟨false, rfl, rfl⟩
  | true =>
   have hok : ∀ i, i < n → okM O W mv M i = true := fun i hi => allN_iff.1 hm i (by omega) (by omega)
   have hN : ∀ i, i < n → (nowL n O W mv M n).getD i [] = nowAt O W mv M i := fun i hi => by
    rw [nowL_get hi, decide_eq_true hi]; rfl
   have g' : Game n O R (nowL n O W mv M n) := ⟨g.n1, g.n2, g.lo, g.lr, nowL_len n, g.ow, g.rk, fun v hv => by rw [hN v hv]; exact (nowAt_in g hv (hok v hv)).2, fun v hv => by rw [hN v hv]; exact (nowAt_in g hv (hok v hv)).1⟩
   have h5 := rounds_all (f := spec_IsWinning_B2 W (nowL n O W mv M n)) (fun i => ((i : Nat) : Int)) (fun i => succB W (nowAt O W mv M i) i) (Sum.inl ()) (Sum.inr ()) (n := n) (fun i hi => by
    obtain ⟨a1, a2⟩ := nowAt_in g hi (hok i hi)
    have inner : rounds (spec_IsWinning_B1 W (nowL n O W mv M n) ((i : Nat) : Int)) (0 : Int) = some (bif succB W (nowAt O W mv M i) i then .inl () else .inr ()) := by
     refine succLoop lw hi a1 a2 (fun k hk => ?_) ?_
     ·unfold spec_IsWinning_B1
      simp only [Int.toNat_natCast, hN i hi]
      simp only [lenI, ltN hk, cond_true, nextN hk (show (nowAt O W mv M i).length ≤ 4294967296 by omega)]
      rw [guard_pos (idxN hk)]
     ·unfold spec_IsWinning_B1
      simp only [Int.toNat_natCast, hN i hi]
      simp only [lenI, geN (Nat.le_refl _), cond_false]
    unfold spec_IsWinning_B2
    simp only [lenI, lw, nowL_len, ltN hi, cond_true, nextN hi (show n ≤ 4294967296 by omega), guard_pos (idxN hi), inner, Option.bind_some]
    cases succB W (nowAt O W mv M i) i <;> rfl) (by
    unfold spec_IsWinning_B2
    simp only [lenI, lw, geN (Nat.le_refl _), cond_false]) n 0 (by omega)
   simp only [Int.natCast_zero] at h5
   simp only [Bool.true_and, Bool.and_self, cond_true, Option.bind_some, h5, Bool.not_true, cond_false]
   cases allN (fun i => succB W (nowAt O W mv M i) i) n 0 with
   | false => exact ⟨false, rfl, rfl⟩
   | true =>
    obtain ⟨b, e1, e2⟩ := same64 (xs := solV O R (nowL n O W mv M n)) (ys := W) (by rw [solV_len]; omega)
    simp only [cond_true, Option.bind_some, specSolve g', implWinners g', e1, e2]
    exact ⟨b, rfl, rfl⟩

end

theorem IsWinning_eq {x0_0 x0_1 : List Int} {x0_2 : List (List Int)} {x1_0 x2_0 : List Int} (g1 : x0_0.length ≤ 1048576) (g2 : x0_1.length ≤ 1048576) (g3 : x0_2.length ≤ 1048576 ∧ ∀ y ∈ x0_2, y.length ≤ 1048576) (g4 : x1_0.length ≤ 1048576) (g5 : x2_0.length ≤ 1048576) :
  ∃ r, spec_IsWinning (x0_0, x0_1, x0_2) x1_0 x2_0 = some r ∧ impl_IsWinning (x0_0, x0_1, x0_2) x1_0 x2_0 = some r := by
 unfold spec_IsWinning impl_IsWinning
 simp only [specGame g3.1 g3.2, implGame g3.1 g3.2 g1 g2, Option.bind_some, areWithin64 (xs := x1_0) (by omega)]
 cases hg : okG x0_0 x0_1 x0_2 with
 | false => exact ⟨_, rfl, rfl⟩
 | true =>
  have g := game_of g3.2 hg
  simp only [Bool.not_true, cond_false, bne]
  cases h1 : (lenI x1_0 == lenI x0_0) with
  | false => exact ⟨_, rfl, rfl⟩
  | true =>
   cases h2 : (lenI x2_0 == lenI x0_0) with
   | false => exact ⟨_, rfl, rfl⟩
   | true =>
    have l1 : x1_0.length = x0_0.length := by have := eq_of_beq h1; simp only [lenI] at this; omega
    have l2 : x2_0.length = x0_0.length := by have := eq_of_beq h2; simp only [lenI] at this; omega
    obtain ⟨b, e1, e2⟩ := IsWinning_same g g3.2 l1 l2 g4
    simp only [Bool.not_true, cond_false, Option.bind_some]
    refine ⟨b, e1, ?_⟩
    rw [← e2]
    cases allIn x1_0 0 1 <;> rfl

end Go.Proofs


/-
 MovesOfGame.
-/
namespace Go.Proofs
open Go.Ide Go.IntWalk

section
variable {n : Nat} {O R W : List Int} {M : List (List Int)}

theorem Game.put (g : Game n O R M) {N : List (List Int)} (h : Game n O R N) {v k : Nat} (hv : v < n) (hk : k < (M.getD v []).length) : Game n O R (N.set v [(M.getD v []).getD k 0]) := by
 obtain ⟨q, hq, hqn⟩ := g.mv v hv k hk
 have hg : ∀ u, (N.set v [(M.getD v []).getD k 0]).getD u [] = if u = v then [(M.getD v []).getD k 0] else N.getD u [] := fun u => by
  by_cases e : u = v
  ·subst e
   simp [List.getD_eq_getElem?_getD, h.lm, hv]
  ·rw [if_neg e]
   simp only [List.getD_eq_getElem?_getD]
   rw [List.getElem?_set_ne (fun x => e x.symm)]
 refine ⟨h.n1, h.n2, h.lo, h.lr, by simpa using h.lm, h.ow, h.rk, fun u hu j hj => ?_, fun u hu => ?_⟩
 ·rw [hg u] at hj ⊢
  by_cases e : u = v
  ·rw [if_pos e] at hj ⊢
   have : j = 0 := by simpa using hj
   subst this
   exact ⟨q, by simpa using hq, hqn⟩
  ·rw [if_neg e] at hj ⊢
   exact h.mv u hu j hj
 ·rw [hg u]
  by_cases e : u = v
  ·rw [if_pos e]; simp
  ·rw [if_neg e]; exact h.ml u hu

theorem tryLoop (g : Game n O R M) (lw : W.length = n) {v : Nat} (hv : v < n) (hwo : (W.getD v 0 == O.getD v 0) = true) {out1 res : List Int} {N0 : List (List Int)} (lres : res.length = n) :
  ∀ (m k : Nat) (N : List (List Int)), m + k = (M.getD v []).length → Game n O R N →
  ∃ q N', rounds (spec_MovesOfGame_B1 (O, R, M) W (O, R, M) ((v : Int), out1, N0)) ((-1 : Int), (k : Int), N) = some (q, N') ∧ rounds (impl_MovesOfGame_B1 (O, R, M) ((v : Int), res, N0)) ((k : Int), N) = some (bif q == -1 then res else res.set v q, N') ∧ Game n O R N' := by
 have n2 := g.n2
 have lo := g.lo
 have lr := g.lr
 have lm := g.lm
 have hl := g.ml v hv
 have jm : (0 : Int) ≤ (v : Int) ∧ (v : Int) < lenI M := idxN (by omega)
 have jw : (0 : Int) ≤ (v : Int) ∧ (v : Int) < lenI W := idxN (by omega)
 have jo : (0 : Int) ≤ (v : Int) ∧ (v : Int) < lenI O := idxN (by omega)
 have jr : (0 : Int) ≤ (v : Int) ∧ (v : Int) < lenI res := idxN (by omega)
 have hstop : ∀ (q k : Nat) (N : List (List Int)), rounds (spec_MovesOfGame_B1 (O, R, M) W (O, R, M) ((v : Int), out1, N0)) ((q : Int), (k : Int), N) = some ((q : Int), N) := fun q k N => by
  rw [rounds_eq]
  have : spec_MovesOfGame_B1 (O, R, M) W (O, R, M) ((v : Int), out1, N0) ((q : Int), (k : Int), N) = some (.inr ((q : Int), N)) := by
   unfold spec_MovesOfGame_B1
   simp only [Int.toNat_natCast, guard_pos jm, guard_pos jw, guard_pos jo, hwo, decide_eq_false (show ¬ ((q : Int) < 0) by omega), cond_true]
   cases decide ((k : Int) < lenI (M.getD v [])) <;> rfl
  rw [this]
 intro m
 induction m with
 | zero =>
  intro k N hm hN
  have hd : decide ((k : Int) < lenI (M.getD v [])) = false := by simp only [lenI]; exact geN (by omega)
  refine ⟨-1, N, ?_, ?_, hN⟩
  ·rw [rounds_eq]
   unfold spec_MovesOfGame_B1
   simp only [Int.toNat_natCast, guard_pos jm, hd, cond_false, Option.bind_some]
  ·rw [rounds_eq]
   unfold impl_MovesOfGame_B1
   simp only [Int.toNat_natCast, hd, cond_false]
   rfl
 | succ m ih =>
  intro k N hm hN
  have hk : k < (M.getD v []).length := by omega
  obtain ⟨q, hq, hqn⟩ := g.mv v hv k hk
  have hN' := g.put hN hv hk
  rw [hq] at hN'
  have hd : decide ((k : Int) < lenI (M.getD v [])) = true := by simp only [lenI]; exact ltN hk
  have jk : (0 : Int) ≤ (k : Int) ∧ (k : Int) < lenI (M.getD v []) := idxN hk
  have jn : (0 : Int) ≤ (v : Int) ∧ (v : Int) < lenI N := by have := hN.lm; exact idxN (by omega)
  have js : (0 : Int) ≤ (v : Int) ∧ (v : Int) < lenI (solV O R (N.set v [(q : Int)])) := idxN (by rw [solV_len]; omega)
  have hWO : W.getD v 0 = O.getD v 0 := eq_of_beq hwo
  have e1 := nextN hk (show (M.getD v []).length ≤ 4294967296 by omega)
  have f1 : spec_MovesOfGame_B1 (O, R, M) W (O, R, M) ((v : Int), out1, N0) ((-1 : Int), (k : Int), N) = some (.inl (bif (solV O R (N.set v [(q : Int)])).getD v 0 == O.getD v 0 then ((q : Int), ((k + 1 : Nat) : Int), N.set v [(q : Int)]) else ((-1 : Int), ((k + 1 : Nat) : Int), N.set v [(q : Int)]))) := by
   unfold spec_MovesOfGame_B1
   simp only [Int.toNat_natCast, guard_pos jm, guard_pos jw, guard_pos jo, guard_pos jk, guard_pos jn, hd, hwo, cond_true, Option.bind_some, decide_eq_true (show (-1 : Int) < 0 by omega), hq, specSolve hN', guard_pos js, hWO, beq_self_eq_true, e1]
   cases ((solV O R (N.set v [(q : Int)])).getD v 0 == O.getD v 0) <;> rfl
  have f2 : impl_MovesOfGame_B1 (O, R, M) ((v : Int), res, N0) ((k : Int), N) = some (bif (solV O R (N.set v [(q : Int)])).getD v 0 == O.getD v 0 then .inr (res.set v (q : Int), N.set v [(q : Int)]) else .inl (((k + 1 : Nat) : Int), N.set v [(q : Int)])) := by
   unfold impl_MovesOfGame_B1
   simp only [Int.toNat_natCast, guard_pos jk, guard_pos jn, hd, cond_true, Option.bind_some, hq, implWinners hN', guard_pos js, guard_pos jr, e1]
   cases ((solV O R (N.set v [(q : Int)])).getD v 0 == O.getD v 0) <;> rfl
  cases hc : ((solV O R (N.set v [(q : Int)])).getD v 0 == O.getD v 0) with
  | true =>
   rw [hc] at f1 f2
   refine ⟨(q : Int), N.set v [(q : Int)], ?_, ?_, hN'⟩
   ·rw [rounds_eq, f1]
    exact hstop q (k + 1) _
   ·rw [rounds_eq, f2]
    have : ((q : Int) == -1) = false := by simp only [beq_eq_false_iff_ne, ne_eq]; omega
    rw [this]; rfl
  | false =>
   rw [hc] at f1 f2
   obtain ⟨q', N', r1, r2, r3⟩ := ih (k + 1) (N.set v [(q : Int)]) (by omega) hN'
   refine ⟨q', N', ?_, ?_, r3⟩
   ·rw [rounds_eq, f1]; exact r1
   ·rw [rounds_eq, f2]; exact r2

theorem Moves_same (g : Game n O R M) (lw : W.length = n) : ∃ r, rounds (spec_MovesOfGame_B2 (O, R, M) W (O, R, M)) ((0 : Int), ([] : List Int), M) = some r ∧ rounds (impl_MovesOfGame_B2 (O, R, M) W) ((0 : Int), List.replicate n (-1 : Int), M) = some r ∧ r.length = n := by
 have n2 := g.n2
 have lo := g.lo
 have lm := g.lm
 obtain ⟨r, r', h1, h2, h3, h4⟩ := rounds_rel (f := spec_MovesOfGame_B2 (O, R, M) W (O, R, M)) (g := impl_MovesOfGame_B2 (O, R, M) W)
  (fun m s t => ∃ (v : Nat) (out : List Int) (N : List (List Int)), m + v = n ∧ s = ((v : Int), out, N) ∧ t = ((v : Int), out ++ List.replicate (n - v) (-1 : Int), N) ∧ out.length = v ∧ Game n O R N)
  (fun r r' => r = r' ∧ r.length = n) (by
  rintro m s t ⟨v, out, N, hm, rfl, rfl, ho, hN⟩
  by_cases hv : v < n
  ·have jw : (0 : Int) ≤ (v : Int) ∧ (v : Int) < lenI W := idxN (by omega)
   have jo : (0 : Int) ≤ (v : Int) ∧ (v : Int) < lenI O := idxN (by omega)
   have jm : (0 : Int) ≤ (v : Int) ∧ (v : Int) < lenI M := idxN (by omega)
   have hd1 : decide ((v : Int) < lenI W) = true := by simp only [lenI]; exact ltN (by omega)
   have hd2 : decide ((v : Int) < lenI O) = true := by simp only [lenI]; exact ltN (by omega)
   have e1 := nextN hv (show n ≤ 4294967296 by omega)
   have hrep : List.replicate (n - v) (-1 : Int) = -1 :: List.replicate (n - (v + 1)) (-1 : Int) := by rw [show n - v = (n - (v + 1)) + 1 by omega, List.replicate_succ]
   have hg : ∀ q : Int, List.length out + List.length ([q] : List Int) ≤ appMax := fun q => by simp only [List.length_singleton, appMax]; omega
   cases hwo : (W.getD v 0 == O.getD v 0) with
   | true =>
    obtain ⟨q, N', r1, r2, r3⟩ := tryLoop g lw hv hwo (out1 := out) (res := out ++ List.replicate (n - v) (-1 : Int)) (N0 := N) (by simp; omega) (M.getD v []).length 0 N (by omega) hN
    simp only [Int.natCast_zero] at r1 r2
    unfold spec_MovesOfGame_B2 impl_MovesOfGame_B2
    simp only [hd1, hd2, cond_true, Int.toNat_natCast, guard_pos jw, guard_pos jo, guard_pos jm, bne, hwo, Bool.not_true, cond_false, r1, r2, Option.bind_some, guard_pos (hg q), e1]
    refine .inl ⟨m - 1, _, _, by omega, rfl, rfl, v + 1, out ++ [q], N', by omega, rfl, ?_, by simp; omega, r3⟩
    have : (bif q == -1 then out ++ List.replicate (n - v) (-1 : Int) else (out ++ List.replicate (n - v) (-1 : Int)).set v q) = (out ++ [q]) ++ List.replicate (n - (v + 1)) (-1 : Int) := by
     rw [hrep]
     cases hq : (q == -1) with
     | true =>
      have := eq_of_beq hq
      subst this
      simp
     | false =>
      simp only [cond_false]
      rw [set_at ho]
      simp
    rw [this]
   | false =>
    have hs : rounds (spec_MovesOfGame_B1 (O, R, M) W (O, R, M) ((v : Int), out, N)) ((-1 : Int), (0 : Int), N) = some ((-1 : Int), N) := by
     rw [rounds_eq]
     unfold spec_MovesOfGame_B1
     simp only [Int.toNat_natCast, guard_pos jm, guard_pos jw, guard_pos jo, hwo, cond_false]
     cases decide ((0 : Int) < lenI (M.getD v [])) <;> rfl
    unfold spec_MovesOfGame_B2 impl_MovesOfGame_B2
    simp only [hd1, hd2, cond_true, Int.toNat_natCast, guard_pos jw, guard_pos jo, bne, hwo, Bool.not_false, hs, Option.bind_some, guard_pos (hg (-1)), e1]
    refine .inl ⟨m - 1, _, _, by omega, rfl, rfl, v + 1, out ++ [-1], N, by omega, rfl, ?_, by simp; omega, hN⟩
    rw [hrep]
    simp
  ·have hvn : v = n := by omega
   have hd1 : decide ((v : Int) < lenI W) = false := by simp only [lenI]; exact geN (by omega)
   have hd2 : decide ((v : Int) < lenI O) = false := by simp only [lenI]; exact geN (by omega)
   unfold spec_MovesOfGame_B2 impl_MovesOfGame_B2
   simp only [hd1, hd2, cond_false]
   exact .inr ⟨_, _, rfl, rfl, by rw [hvn, Nat.sub_self]; simp, by omega⟩) n ((0 : Int), ([] : List Int), M) ((0 : Int), List.replicate n (-1 : Int), M) ⟨0, [], M, by omega, rfl, by simp, rfl, g⟩
 exact ⟨r, h1, by rw [h2, h3], h4⟩

end

theorem MovesOfGame_eq {x0_0 x0_1 : List Int} {x0_2 : List (List Int)} (g1 : x0_0.length ≤ 1048576) (g2 : x0_1.length ≤ 1048576) (g3 : x0_2.length ≤ 1048576 ∧ ∀ y ∈ x0_2, y.length ≤ 1048576) :
  ∃ r, spec_MovesOfGame (x0_0, x0_1, x0_2) = some r ∧ impl_MovesOfGame (x0_0, x0_1, x0_2) = some r ∧ r.1.length ≤ 1000000 := by
 unfold spec_MovesOfGame impl_MovesOfGame
 simp only [specGame g3.1 g3.2, implGame g3.1 g3.2 g1 g2, Option.bind_some]
 cases hg : okG x0_0 x0_1 x0_2 with
 | false => exact ⟨_, rfl, rfl, by simp⟩
 | true =>
  have g := game_of g3.2 hg
  have n2 := g.n2
  have ls := solV_len x0_0 x0_1 x0_2
  have en : impl_none (lenI (solV x0_0 x0_1 x0_2)) = some (List.replicate x0_0.length (-1 : Int)) := by
   unfold impl_none
   simp only [lenI]
   rw [ls, repeatNone _ n2]; rfl
  obtain ⟨r, h1, h2, h3⟩ := Moves_same g (W := solV x0_0 x0_1 x0_2) ls
  simp only [Bool.not_true, cond_false, specSolve g, implWinners g, Option.bind_some, ownGame g1 g2 g3.1 g3.2, clone_ok g3.1, en, h1, h2]
  exact ⟨_, rfl, rfl, by simp only; omega⟩

end Go.Proofs


/-
 GamesShared, TurnGame.
-/
namespace Go.Proofs
open Go.Ide Go.IntWalk

def turnO (O : List Int) : List Int := O.map fun x => 1 - x
def turnR (R : List Int) : List Int := R.map fun x => x + 1

theorem allIn_map {xs : List Int} {f : Int → Int} {b c b' c' : Int} (h : ∀ x ∈ xs, ((x ≥ b ∧ x ≤ c) ↔ (f x ≥ b' ∧ f x ≤ c'))) : allIn (xs.map f) b' c' = allIn xs b c := by
 unfold allIn
 rw [List.all_map, Bool.eq_iff_iff, List.all_eq_true, List.all_eq_true]
 simp only [Function.comp, Bool.and_eq_true, decide_eq_true_eq]
 exact ⟨fun hx x hm => (h x hm).2 (hx x hm), fun hx x hm => (h x hm).1 (hx x hm)⟩

theorem okG_turn {O R : List Int} {M : List (List Int)} (h : okG O R M = true) : okG (turnO O) (turnR R) M = !(hasB R 8) := by
 unfold okG at h ⊢
 simp only [Bool.and_eq_true, decide_eq_true_eq] at h
 obtain ⟨⟨h1, h2⟩, h3, h4, h5, h6, h7⟩ := h
 have e1 : lenI (turnO O) = lenI O := by simp [lenI, turnO]
 have e2 : lenI (turnR R) = lenI R := by simp [lenI, turnR]
 have e3 : allIn (turnO O) 0 1 = true := by
  unfold turnO
  rw [allIn_map (b := 0) (c := 1) (fun x _ => ⟨fun h => ⟨by omega, by omega⟩, fun h => ⟨by omega, by omega⟩⟩)]; exact h5
 have e4 : allIn (turnR R) 0 8 = !(hasB R 8) := by
  rw [Bool.eq_iff_iff, allIn_iff]
  unfold hasB
  rw [Bool.not_not, allN_iff]
  have hr := allIn_iff.1 h6
  have hg : ∀ i, i < R.length → (turnR R).getD i 0 = R.getD i 0 + 1 := fun i hi => by
   unfold turnR
   simp [List.getD_eq_getElem?_getD, hi]
  constructor
  ·intro h i _ hi
   have := h i (by simp [turnR]; omega)
   rw [hg i (by omega)] at this
   simp only [Bool.not_eq_true', beq_eq_false_iff_ne, ne_eq]
   omega
  ·intro h i hi
   have hi : i < R.length := by simpa [turnR] using hi
   have := h i (by omega) (by omega)
   simp only [Bool.not_eq_true', beq_eq_false_iff_ne, ne_eq] at this
   rw [hg i hi]
   have := hr i hi
   omega
 rw [e1, e2, e3, e4, h3, h4, h7]
 have e5 : decide (lenI O ≥ 1) = true := decide_eq_true h1
 have e6 : decide (lenI O ≤ 16) = true := decide_eq_true h2
 rw [e5, e6]
 cases hasB R 8 <;> rfl

end Go.Proofs


/-
 The source from which the laws draw.
-/
namespace Go.Proofs
open Go.Ide Go.IntWalk

abbrev SrcD := List Int × Int × Int

def BytesI (c : List Int) : Prop := c.length ≤ 1048576 ∧ ∀ i, i < c.length → 0 ≤ c.getD i 0 ∧ c.getD i 0 ≤ 255

theorem bytesI_wf {x : List Int} (w : WfD (.sl (.int .u8)) x) (h : x.length ≤ 1048576) : BytesI x := by
 refine ⟨h, fun i hi => ?_⟩
 have := w.2 i hi
 have h2 : (Lit.int .u8 (x[i] : Int)).wf = true := this
 rw [List.getD_eq_getElem?_getD, List.getElem?_eq_getElem hi]
 simp only [Lit.wf, Bool.and_eq_true, decide_eq_true_eq] at h2
 have e1 : IntKind.u8.min = 0 := by decide
 have e2 : IntKind.u8.max = 255 := by decide
 rw [e1, e2] at h2
 simp only [Option.getD_some]
 omega

structure SrcOK (n : Nat) (s : SrcD) : Prop where
 code : BytesI s.1
 at0 : 0 ≤ s.2.1
 at1 : s.2.1 + (n : Int) ≤ 1000000000000000000

theorem SrcOK.mono {n m : Nat} {s : SrcD} (h : SrcOK n s) (hm : m ≤ n) : SrcOK m s := ⟨h.code, h.at0, by have := h.at1; omega⟩

theorem SrcOK.from {c : List Int} (h : BytesI c) : spec_l00From c = some (c, (0 : Int), (0 : Int)) ∧ SrcOK 1000000000000000000 (c, (0 : Int), (0 : Int)) := ⟨rfl, h, Int.le_refl _, by simp⟩

theorem byte64 (x : Int) (h : 0 ≤ x ∧ x ≤ 255) : IntKind.wrap .i64 x = x := i64_in _ (by omega)

theorem low255 (z : Int) : ∃ y : Int, IntKind.wrap .i64 (IntKind.wrap .u64 (((BitVec.ofInt (IntKind.bits .u64) z &&& BitVec.ofInt (IntKind.bits .u64) (255 : Int)).toNat : Nat) : Int)) = y ∧ 0 ≤ y ∧ y ≤ 255 := by
 have h1 : (BitVec.ofInt (IntKind.bits .u64) z &&& BitVec.ofInt (IntKind.bits .u64) (255 : Int)).toNat ≤ 255 := by
  rw [BitVec.toNat_and]
  refine Nat.le_trans Nat.and_le_right ?_
  decide
 generalize (BitVec.ofInt (IntKind.bits .u64) z &&& BitVec.ofInt (IntKind.bits .u64) (255 : Int)).toNat = q at h1
 have h2 : IntKind.wrap .u64 ((q : Nat) : Int) = (q : Int) := by
  unfold IntKind.wrap
  simp only [IntKind.bits, IntKind.signed, Bool.false_and, Bool.false_eq_true, if_false]
  omega
 rw [h2, i64_in _ (by omega)]
 exact ⟨_, rfl, by omega, by omega⟩

theorem next_ok {n : Nat} {s : SrcD} (h : SrcOK (n + 1) s) : ∃ x s', spec_l00Src_next s = some (x, s') ∧ 0 ≤ x ∧ x ≤ 255 ∧ SrcOK n s' := by
 obtain ⟨c, a, z⟩ := s
 obtain ⟨hc, h0, h1⟩ := h
 have h0 : 0 ≤ a := h0
 have h1 : a + ((n + 1 : Nat) : Int) ≤ 1000000000000000000 := h1
 have e1 : wadd .i64 a 1 = a + 1 := waddI (by omega)
 unfold spec_l00Src_next
 simp only [e1]
 have hs : ∀ z', SrcOK n (c, a + 1, z') := fun z' => ⟨hc, by show 0 ≤ a + 1; omega, by show a + 1 + (n : Int) ≤ _; omega⟩
 have key : ∀ v : Int, 0 ≤ v ∧ v ≤ 255 → ∃ x s', (bif decide (a + 1 ≤ lenI c) then some (v, c, a + 1, wadd .u64 (wadd .u64 (wmul .u64 z 6364136223846793005) (IntKind.wrap .u64 v)) 1442695040888963407)
   else (some (IntKind.wrap .i64 (IntKind.wrap .u64 (((BitVec.ofInt (IntKind.bits .u64) (Int.fdiv (wadd .u64 (wadd .u64 (wmul .u64 z 6364136223846793005) (IntKind.wrap .u64 v)) 1442695040888963407) (2 ^ (min (Int.toNat (40 : Int)) (IntKind.bits .u64)))) &&& BitVec.ofInt (IntKind.bits .u64) (255 : Int)).toNat : Nat) : Int)))).bind fun q5 =>
    some (q5, c, a + 1, wadd .u64 (wadd .u64 (wmul .u64 z 6364136223846793005) (IntKind.wrap .u64 v)) 1442695040888963407)) = some (x, s') ∧ 0 ≤ x ∧ x ≤ 255 ∧ SrcOK n s' := by
  intro v hv
  cases decide (a + 1 ≤ lenI c) with
  | true => exact ⟨_, _, rfl, hv.1, hv.2, hs _⟩
  | false =>
   obtain ⟨y, e, y1, y2⟩ := low255 (Int.fdiv (wadd .u64 (wadd .u64 (wmul .u64 z 6364136223846793005) (IntKind.wrap .u64 v)) 1442695040888963407) (2 ^ (min (Int.toNat (40 : Int)) (IntKind.bits .u64))))
   rw [e]
   exact ⟨_, _, rfl, y1, y2, hs _⟩
 by_cases hlt : a < lenI c
 ·have hi : a.toNat < c.length := by simp only [lenI] at hlt; omega
  have hb := hc.2 a.toNat hi
  simp only [hlt, decide_true, cond_true]
  rw [guard_pos ⟨h0, trivial⟩, byte64 _ hb]
  exact key _ hb
 ·simp only [hlt, decide_false, cond_false]
  exact key 0 (by omega)

theorem tmod_in {x n : Int} (hx : 0 ≤ x) (hn : 0 < n) : 0 ≤ Int.tmod x n ∧ Int.tmod x n < n := by
 rw [Int.tmod_eq_emod_of_nonneg hx]
 exact ⟨Int.emod_nonneg _ (by omega), Int.emod_lt_of_pos _ hn⟩

theorem pick_ok {n : Nat} {s : SrcD} (h : SrcOK (n + 2) s) (k : Int) : ∃ x s', spec_l00Src_pick s k = some (x, s') ∧ 0 ≤ x ∧ (x < k ∨ x = 0) ∧ SrcOK n s' := by
 unfold spec_l00Src_pick
 by_cases h1 : k ≤ 1
 ·simp only [h1, decide_true, cond_true]
  exact ⟨_, _, rfl, Int.le_refl _, .inr rfl, h.mono (by omega)⟩
 ·simp only [h1, decide_false, cond_false]
  obtain ⟨x, s1, e1, x1, x2, o1⟩ := next_ok h
  simp only [e1, Option.bind_some]
  by_cases h2 : k > 200
  ·obtain ⟨y, s2, e2, y1, y2, o2⟩ := next_ok o1
   have e3 : wmul .i64 x 256 = x * 256 := wmulI (by omega)
   have e4 : wadd .i64 (x * 256) y = x * 256 + y := waddI (by omega)
   simp only [h2, decide_true, cond_true, e2, Option.bind_some, e3, e4]
   rw [guard_pos (by omega)]
   have := tmod_in (x := x * 256 + y) (n := k) (by omega) (by omega)
   exact ⟨_, _, rfl, this.1, .inl this.2, o2⟩
  ·simp only [h2, decide_false, cond_false, Option.bind_some]
   rw [guard_pos (by omega)]
   have := tmod_in (x := x) (n := k) (by omega) (by omega)
   exact ⟨_, _, rfl, this.1, .inl this.2, o1.mono (by omega)⟩

theorem b10At_ok {c : List Int} (hc : BytesI c) {i n : Int} (hi : 0 ≤ i ∧ i ≤ 1000000000000) : ∃ x, laws_b10At c i n = some x ∧ 0 ≤ x ∧ (x < n ∨ x = 0) := by
 unfold laws_b10At
 by_cases h1 : n ≤ 1
 ·simp only [h1, decide_true, cond_true]
  exact ⟨_, rfl, Int.le_refl _, .inr rfl⟩
 ·simp only [h1, decide_false, cond_false]
  by_cases hlt : i < lenI c
  ·have hj : i.toNat < c.length := by simp only [lenI] at hlt; omega
   have hb := hc.2 i.toNat hj
   simp only [hlt, decide_true, cond_true]
   rw [guard_pos ⟨hi.1, trivial⟩, guard_pos (by omega), byte64 _ hb]
   have := tmod_in (x := c.getD i.toNat 0) (n := n) hb.1 (by omega)
   exact ⟨_, rfl, this.1, .inl this.2⟩
  ·simp only [hlt, decide_false, cond_false]
   rw [guard_pos (by omega), wmulI (by omega), waddI (by omega)]
   have := tmod_in (x := i * 37 + 11) (n := n) (by omega) (by omega)
   exact ⟨_, rfl, this.1, .inl this.2⟩

end Go.Proofs


/-
 Games that go on for ever: who wins, and by which moves; no program in sight.
-/
namespace Go.Proofs

def WinP (R : Nat → Nat) (p : Nat) (w : Nat → Nat) : Prop := ∃ r, r % 2 = p ∧ (∀ N, ∃ i, N ≤ i ∧ R (w i) = r) ∧ ∃ N, ∀ i, N ≤ i → R (w i) ≤ r

theorem WinP.unique {R : Nat → Nat} {p q : Nat} {w : Nat → Nat} (h : WinP R p w) (h' : WinP R q w) : p = q := by
 obtain ⟨r, h1, h2, N, h3⟩ := h
 obtain ⟨r', h1', h2', N', h3'⟩ := h'
 obtain ⟨i, hi, e⟩ := h2 N'
 obtain ⟨j, hj, e'⟩ := h2' N
 have := h3' i hi
 have := h3 j hj
 have : r = r' := by omega
 subst this
 rw [← h1, ← h1']

theorem WinP.tail {R : Nat → Nat} {p k : Nat} {w : Nat → Nat} (h : WinP R p (fun i => w (i + k))) : WinP R p w := by
 obtain ⟨r, h1, h2, N, h3⟩ := h
 refine ⟨r, h1, fun M => ?_, N + k, fun i hi => ?_⟩
 ·obtain ⟨i, hi, e⟩ := h2 M
  exact ⟨i + k, by omega, e⟩
 ·have : R (w (i - k + k)) ≤ r := h3 (i - k) (by omega)
  rwa [show i - k + k = i by omega] at this

structure Wins (E : Nat → Nat → Prop) (own R : Nat → Nat) (p : Nat) (ins S : Nat → Prop) (s : Nat → Nat) : Prop where
 sub : ∀ v, S v → ins v
 mine : ∀ v, S v → own v = p → E v (s v) ∧ S (s v)
 their : ∀ v, S v → own v ≠ p → ∀ u, E v u → ins u → S u
 win : ∀ w : Nat → Nat, (∀ i, S (w i)) → (∀ i, E (w i) (w (i + 1))) → (∀ i, own (w i) = p → w (i + 1) = s (w i)) → WinP R p w

section
variable {E : Nat → Nat → Prop} {own R : Nat → Nat}

theorem Wins.apart {p q : Nat} {ins S T : Nat → Prop} {s t : Nat → Nat} (h : Wins E own R p ins S s) (h' : Wins E own R q ins T t) (hpq : p ≠ q) (ho : ∀ v, own v = p ∨ own v = q) {v : Nat} (hS : S v) (hT : T v) : False := by
 let st : Nat → Nat := fun u => if own u = p then s u else t u
 let w : Nat → Nat := fun i => Nat.rec v (fun _ u => st u) i
 have hw : ∀ i, w (i + 1) = st (w i) := fun _ => rfl
 have step : ∀ u, S u → T u → E u (st u) ∧ S (st u) ∧ T (st u) := fun u h1 h2 => by
  show E u (if own u = p then s u else t u) ∧ S (if own u = p then s u else t u) ∧ T (if own u = p then s u else t u)
  by_cases e : own u = p
  ·rw [if_pos e]
   obtain ⟨a, b⟩ := h.mine u h1 e
   exact ⟨a, b, h'.their u h2 (by omega) _ a (h.sub _ b)⟩
  ·rw [if_neg e]
   have e2 : own u = q := by rcases ho u with x | x; exact absurd x e; exact x
   obtain ⟨a, b⟩ := h'.mine u h2 e2
   exact ⟨a, h.their u h1 e _ a (h'.sub _ b), b⟩
 have all : ∀ i, S (w i) ∧ T (w i) := fun i => by
  induction i with
  | zero => exact ⟨hS, hT⟩
  | succ i ih => rw [hw]; exact (step _ ih.1 ih.2).2
 have w1 := h.win w (fun i => (all i).1) (fun i => by rw [hw]; exact (step _ (all i).1 (all i).2).1) (fun i e => by
  rw [hw]
  show (if own (w i) = p then _ else _) = _
  rw [if_pos e])
 have w2 := h'.win w (fun i => (all i).2) (fun i => by rw [hw]; exact (step _ (all i).1 (all i).2).1) (fun i e => by
  rw [hw]
  show (if own (w i) = p then _ else _) = _
  rw [if_neg (by omega)])
 exact hpq (w1.unique w2)

def AttL (E : Nat → Nat → Prop) (own : Nat → Nat) (p : Nat) (ins T : Nat → Prop) : Nat → Nat → Prop
 | 0, v => T v
 | k + 1, v => AttL E own p ins T k v ∨ (ins v ∧ own v = p ∧ ∃ u, E v u ∧ ins u ∧ AttL E own p ins T k u) ∨ (ins v ∧ own v ≠ p ∧ ∀ u, E v u → ins u → AttL E own p ins T k u)

theorem AttL.mono {p : Nat} {ins T : Nat → Prop} {v : Nat} : ∀ {k j : Nat}, k ≤ j → AttL E own p ins T k v → AttL E own p ins T j v := by
 intro k j h
 induction h with
 | refl => exact id
 | step _ ih => exact fun h => .inl (ih h)

structure Attr (E : Nat → Nat → Prop) (own : Nat → Nat) (p : Nat) (ins T A : Nat → Prop) : Prop where
 base : ∀ v, T v → A v
 inn : ∀ v, A v → ins v
 lev : ∀ v, A v → ∃ k, AttL E own p ins T k v
 cmine : ∀ v, ins v → ¬ A v → own v = p → ∀ u, E v u → ins u → ¬ A u
 ctheir : ∀ v, ins v → ¬ A v → own v ≠ p → ∃ u, E v u ∧ ins u ∧ ¬ A u

theorem Attr.up {p : Nat} {ins T A : Nat → Prop} (a : Attr E own p ins T A) : ∀ (k v : Nat), AttL E own p ins T k v → A v
 | 0, v, h => a.base v h
 | k + 1, v, h => by
  refine Classical.byContradiction fun hn => ?_
  rcases h with h | ⟨h1, h2, u, h3, h4, h5⟩ | ⟨h1, h2, h3⟩
  ·exact hn (a.up k v h)
  ·exact a.cmine v h1 hn h2 u h3 h4 (a.up k u h5)
  ·obtain ⟨u, q1, q2, q3⟩ := a.ctheir v h1 hn h2
   exact q3 (a.up k u (h3 u q1 q2))

theorem least {P : Nat → Prop} (h : ∃ k, P k) : ∃ k, P k ∧ ∀ j, P j → k ≤ j := by
 obtain ⟨k, hk⟩ := h
 induction k using Nat.strongRecOn with
 | _ k ih =>
  by_cases hx : ∃ j, j < k ∧ P j
  ·obtain ⟨j, h1, h2⟩ := hx
   exact ih j h1 h2
  ·exact ⟨k, hk, fun j hj => Nat.le_of_not_lt fun hlt => hx ⟨j, hlt, hj⟩⟩

theorem Attr.moves {p : Nat} {ins T A : Nat → Prop} (a : Attr E own p ins T A) : ∃ (t lv : Nat → Nat), ∀ v, A v → ¬ T v →
  (own v = p → E v (t v) ∧ A (t v) ∧ lv (t v) < lv v) ∧ (own v ≠ p → ∀ u, E v u → ins u → A u ∧ lv u < lv v) := by
 classical
 have hl : ∀ v, ∃ k, A v → AttL E own p ins T k v ∧ ∀ j, AttL E own p ins T j v → k ≤ j := fun v => by
  by_cases h : A v
  ·obtain ⟨k, h1, h2⟩ := least (a.lev v h)
   exact ⟨k, fun _ => ⟨h1, h2⟩⟩
  ·exact ⟨0, fun h' => absurd h' h⟩
 let lv : Nat → Nat := fun v => Classical.choose (hl v)
 have hlv : ∀ v, A v → AttL E own p ins T (lv v) v ∧ ∀ j, AttL E own p ins T j v → lv v ≤ j := fun v => Classical.choose_spec (hl v)
 have hs : ∀ v, ∃ u, A v → ¬ T v → own v = p → E v u ∧ A u ∧ lv u < lv v := fun v => by
  by_cases h : A v ∧ ¬ T v ∧ own v = p
  ·obtain ⟨h1, h2, h3⟩ := h
   obtain ⟨q1, q2⟩ := hlv v h1
   cases hk : lv v with
   | zero => rw [hk] at q1; exact absurd q1 h2
   | succ k =>
    rw [hk] at q1
    rcases q1 with q1 | ⟨_, _, u, q3, q4, q5⟩ | ⟨_, q3, _⟩
    ·have := q2 k q1; omega
    ·exact ⟨u, fun _ _ _ => ⟨q3, a.up k u q5, by have := (hlv u (a.up k u q5)).2 k q5; omega⟩⟩
    ·exact absurd h3 q3
  ·exact ⟨0, fun h1 h2 h3 => absurd ⟨h1, h2, h3⟩ h⟩
 refine ⟨fun v => Classical.choose (hs v), lv, fun v h1 h2 => ⟨fun h3 => Classical.choose_spec (hs v) h1 h2 h3, fun h3 u h4 h5 => ?_⟩⟩
 obtain ⟨q1, q2⟩ := hlv v h1
 cases hk : lv v with
 | zero => rw [hk] at q1; exact absurd q1 h2
 | succ k =>
  rw [hk] at q1
  rcases q1 with q1 | ⟨_, q3, _⟩ | ⟨_, _, q3⟩
  ·have := q2 k q1; omega
  ·exact absurd q3 h3
  ·have q := q3 u h4 h5
   exact ⟨a.up k u q, by have := (hlv u (a.up k u q)).2 k q; omega⟩

theorem reach_it {p : Nat} {ins T A : Nat → Prop} {t lv w : Nat → Nat} (hm : ∀ v, A v → ¬ T v →
  (own v = p → E v (t v) ∧ A (t v) ∧ lv (t v) < lv v) ∧ (own v ≠ p → ∀ u, E v u → ins u → A u ∧ lv u < lv v))
  (hi : ∀ i, ins (w i)) (hE : ∀ i, E (w i) (w (i + 1))) (ht : ∀ i, A (w i) → ¬ T (w i) → own (w i) = p → w (i + 1) = t (w i)) : ∀ (n i : Nat), lv (w i) ≤ n → A (w i) → ∃ j, i ≤ j ∧ T (w j) := by
 intro n
 induction n with
 | zero =>
  intro i hl hA
  by_cases hT : T (w i)
  ·exact ⟨i, Nat.le_refl _, hT⟩
  ·by_cases ho : own (w i) = p
   ·have := ((hm _ hA hT).1 ho).2.2; omega
   ·have := ((hm _ hA hT).2 ho _ (hE i) (hi _)).2; omega
 | succ n ih =>
  intro i hl hA
  by_cases hT : T (w i)
  ·exact ⟨i, Nat.le_refl _, hT⟩
  ·by_cases ho : own (w i) = p
   ·have h := (hm _ hA hT).1 ho
    rw [← ht i hA hT ho] at h
    obtain ⟨j, h1, h2⟩ := ih (i + 1) (by omega) h.2.1
    exact ⟨j, by omega, h2⟩
   ·have h := (hm _ hA hT).2 ho _ (hE i) (hi _)
    obtain ⟨j, h1, h2⟩ := ih (i + 1) (by omega) h.1
    exact ⟨j, by omega, h2⟩

theorem wins_all {p d : Nat} {ins A : Nat → Prop} {s : Nat → Nat} (live : ∀ v, ins v → ∃ u, E v u ∧ ins u) (hd : ∀ v, ins v → R v ≤ d) (hp : d % 2 = p)
  (a : Attr E own p ins (fun v => ins v ∧ R v = d) A) (hw : Wins E own R p (fun v => ins v ∧ ¬ A v) (fun v => ins v ∧ ¬ A v) s) : ∃ s', Wins E own R p ins ins s' := by
 classical
 obtain ⟨t, lv, hm⟩ := a.moves
 have hsu : ∀ v, ∃ u, ins v → E v u ∧ ins u := fun v => by
  by_cases h : ins v
  ·obtain ⟨u, hu⟩ := live v h; exact ⟨u, fun _ => hu⟩
  ·exact ⟨0, fun h' => absurd h' h⟩
 let su : Nat → Nat := fun v => Classical.choose (hsu v)
 have hsu : ∀ v, ins v → E v (su v) ∧ ins (su v) := fun v => Classical.choose_spec (hsu v)
 let s' : Nat → Nat := fun v => if R v = d then su v else if A v then t v else s v
 refine ⟨s', fun _ h => h, fun v h1 h2 => ?_, fun _ _ _ _ _ h => h, fun w h1 h2 h3 => ?_⟩
 ·show E v (if R v = d then su v else if A v then t v else s v) ∧ ins (if R v = d then su v else if A v then t v else s v)
  by_cases e : R v = d
  ·rw [if_pos e]; exact hsu v h1
  ·rw [if_neg e]
   by_cases e2 : A v
   ·rw [if_pos e2]
    have := (hm v e2 (fun h => e h.2)).1 h2
    exact ⟨this.1, a.inn _ this.2.1⟩
   ·rw [if_neg e2]
    have := hw.mine v ⟨h1, e2⟩ h2
    exact ⟨this.1, this.2.1⟩
 ·by_cases hx : ∀ N, ∃ i, N ≤ i ∧ A (w i)
  ·refine ⟨d, hp, fun N => ?_, 0, fun i _ => hd _ (h1 i)⟩
   obtain ⟨i, hi, hA⟩ := hx N
   obtain ⟨j, hj, hT⟩ := reach_it hm h1 h2 (fun i hA hT ho => by
    rw [h3 i ho]
    show (if R (w i) = d then su (w i) else if A (w i) then t (w i) else s (w i)) = _
    rw [if_neg (fun e => hT ⟨h1 i, e⟩), if_pos hA]) (lv (w i)) i (Nat.le_refl _) hA
   exact ⟨j, by omega, hT.2⟩
  ·have hx : ∃ N, ∀ i, N ≤ i → ¬ A (w i) := Classical.byContradiction fun hn => hx fun N => Classical.byContradiction fun hm => hn ⟨N, fun i hi hA => hm ⟨i, hi, hA⟩⟩
   obtain ⟨N, hN⟩ := hx
   refine WinP.tail (k := N) (hw.win _ (fun i => ⟨h1 _, hN _ (by omega)⟩) (fun i => ?_) (fun i ho => ?_))
   ·have := h2 (i + N); rwa [show i + N + 1 = i + 1 + N by omega] at this
   ·have := h3 (i + N) ho
    rw [show i + N + 1 = i + 1 + N by omega] at this
    rw [this]
    show (if R (w (i + N)) = d then su (w (i + N)) else if A (w (i + N)) then t (w (i + N)) else s (w (i + N))) = _
    have hna := hN (i + N) (by omega)
    rw [if_neg (fun e => hna (a.base _ ⟨h1 _, e⟩)), if_neg hna]

theorem wins_some {p q : Nat} {ins T A Sq B Up Uq : Nat → Prop} {sq up uq : Nat → Nat} (hpq : p ≠ q) (ho : ∀ v, own v = p ∨ own v = q)
  (a : Attr E own p ins T A) (hq : Wins E own R q (fun v => ins v ∧ ¬ A v) Sq sq) (b : Attr E own q ins Sq B)
  (hu : Wins E own R p (fun v => ins v ∧ ¬ B v) Up up) (hv : Wins E own R q (fun v => ins v ∧ ¬ B v) Uq uq) :
  (∃ s, Wins E own R p ins Up s) ∧ ∃ s, Wins E own R q ins (fun v => B v ∨ Uq v) s := by
 classical
 have oth : ∀ v, own v ≠ p → own v = q := fun v h => by rcases ho v with x | x; exact absurd x h; exact x
 obtain ⟨t, lv, hm⟩ := b.moves
 refine ⟨⟨up, fun v h => (hu.sub v h).1, fun v h1 h2 => hu.mine v h1 h2, fun v h1 h2 u h3 h4 => ?_, hu.win⟩, ?_⟩
 ·have := hu.sub v h1
  exact hu.their v h1 h2 u h3 ⟨h4, b.cmine v this.1 this.2 (oth v h2) u h3 h4⟩
 ·let s : Nat → Nat := fun v => if Sq v then sq v else if B v then t v else uq v
  have hs1 : ∀ v, Sq v → s v = sq v := fun v h => if_pos h
  have hs2 : ∀ v, ¬ Sq v → B v → s v = t v := fun v h h' => (if_neg h).trans (if_pos h')
  have hs3 : ∀ v, ¬ B v → s v = uq v := fun v h => (if_neg (fun h' => h (b.base v h'))).trans (if_neg h)
  have their : ∀ v, Sq v → own v ≠ q → ∀ u, E v u → ins u → Sq u := fun v h1 h2 u h3 h4 => by
   have := hq.sub v h1
   have hp : own v = p := by rcases ho v with x | x; exact x; exact absurd x h2
   exact hq.their v h1 h2 u h3 ⟨h4, a.cmine v this.1 this.2 hp u h3 h4⟩
  refine ⟨s, fun v h => ?_, fun v h1 h2 => ?_, fun v h1 h2 u h3 h4 => ?_, fun w h1 h2 h3 => ?_⟩
  ·rcases h with h | h
   ·exact b.inn v h
   ·exact (hv.sub v h).1
  ·by_cases e : Sq v
   ·rw [hs1 v e]
    have := hq.mine v e h2
    exact ⟨this.1, .inl (b.base _ this.2)⟩
   ·by_cases e2 : B v
    ·rw [hs2 v e e2]
     have := (hm v e2 e).1 h2
     exact ⟨this.1, .inl this.2.1⟩
    ·rw [hs3 v e2]
     have hU : Uq v := by rcases h1 with x | x; exact absurd x e2; exact x
     have := hv.mine v hU h2
     exact ⟨this.1, .inr this.2⟩
  ·by_cases e : Sq v
   ·exact .inl (b.base _ (their v e h2 u h3 h4))
   ·by_cases e2 : B v
    ·exact .inl ((hm v e2 e).2 h2 u h3 h4).1
    ·have hU : Uq v := by rcases h1 with x | x; exact absurd x e2; exact x
     by_cases e3 : B u
     ·exact .inl e3
     ·exact .inr (hv.their v hU h2 u h3 ⟨h4, e3⟩)
  ·have hi : ∀ i, ins (w i) := fun i => by
    rcases h1 i with h | h
    ·exact b.inn _ h
    ·exact (hv.sub _ h).1
   by_cases hx : ∃ i, B (w i)
   ·obtain ⟨i, hB⟩ := hx
    obtain ⟨j, hj, hT⟩ := reach_it hm hi h2 (fun i hA hT ho => by rw [h3 i ho, hs2 _ hT hA]) (lv (w i)) i (Nat.le_refl _) hB
    have all : ∀ k, Sq (w (k + j)) := fun k => by
     induction k with
     | zero => rw [Nat.zero_add]; exact hT
     | succ k ih =>
      by_cases e : own (w (k + j)) = q
      ·have h := h3 (k + j) e
       rw [hs1 _ ih, show k + j + 1 = k + 1 + j by omega] at h
       rw [h]
       exact (hq.mine _ ih e).2
      ·have h := h2 (k + j)
       rw [show k + j + 1 = k + 1 + j by omega] at h
       exact their _ ih e _ h (hi _)
    refine WinP.tail (k := j) (hq.win _ all (fun i => ?_) (fun i ho => ?_))
    ·have := h2 (i + j); rwa [show i + j + 1 = i + 1 + j by omega] at this
    ·have := h3 (i + j) ho
     rw [show i + j + 1 = i + 1 + j by omega] at this
     rw [this, hs1 _ (all i)]
   ·have hnB : ∀ i, ¬ B (w i) := fun i h => hx ⟨i, h⟩
    refine hv.win w (fun i => ?_) h2 (fun i ho => by rw [h3 i ho, hs3 _ (hnB i)])
    rcases h1 i with h | h
    ·exact absurd h (hnB i)
    ·exact h

def Solved (E : Nat → Nat → Prop) (own R : Nat → Nat) (ins W : Nat → Prop) : Prop := (∃ s, Wins E own R 1 ins (fun v => ins v ∧ W v) s) ∧ ∃ s, Wins E own R 0 ins (fun v => ins v ∧ ¬ W v) s

end
end Go.Proofs


/-
 What the search for winners finds is won.
-/
namespace Go.Proofs
open Go.Ide Go.IntWalk

def edgeG (M : List (List Int)) (v u : Nat) : Prop := ∃ k, k < (M.getD v []).length ∧ (M.getD v []).getD k 0 = (u : Int)
def ownG (O : List Int) (v : Nat) : Nat := if O.getD v 0 = 1 then 1 else 0
def rkG (R : List Int) (v : Nat) : Nat := (R.getD v 0).toNat
def inG (l : List Bool) (v : Nat) : Prop := l.getD v false = true

theorem inG_lt {l : List Bool} {v : Nat} (h : inG l v) : v < l.length := Nat.lt_of_not_le fun hn => by
 unfold inG at h
 rw [getD_out hn] at h
 cases h

theorem own_01 (O : List Int) (v : Nat) : ownG O v = 1 ∨ ownG O v = 0 := by
 unfold ownG; split
 ·exact .inl rfl
 ·exact .inr rfl

def Live (n : Nat) (M : List (List Int)) : Prop := ∀ v, v < n → 1 ≤ (M.getD v []).length

section
variable {n : Nat} {O R : List Int} {M : List (List Int)}

theorem own_int (g : Game n O R M) {v : Nat} (hv : v < n) : O.getD v 0 = ((ownG O v : Nat) : Int) := by
 unfold ownG
 rcases g.ow v hv with h | h <;> rw [h] <;> simp

theorem edge_lt (g : Game n O R M) {v u : Nat} (hv : v < n) (h : edgeG M v u) : u < n := by
 obtain ⟨k, hk, e⟩ := h
 obtain ⟨q, hq, hqn⟩ := g.mv v hv k hk
 rw [hq] at e; omega

theorem drawRow (g : Game n O R M) {ins out : List Bool} (l1 : ins.length = n) (l2 : out.length = n) {v : Nat} (hv : v < n) (c1 : Bool) :
  ∃ x y, rounds (spec_l07Draw_B1 (O, R, M) ins (c1, (v : Int), out)) (false, true, (0 : Int)) = some (x, y) ∧ (x = true ↔ ∃ u, edgeG M v u ∧ inG ins u ∧ inG out u) ∧ (y = true ↔ ∀ u, edgeG M v u → inG ins u → inG out u) := by
 have hml := g.ml v hv
 have n2 := g.n2
 obtain ⟨r, h1, h2, h3⟩ := rounds_inv (f := spec_l07Draw_B1 (O, R, M) ins (c1, (v : Int), out)) (fun m s => ∃ (k : Nat) (p q : Bool), m + k = (M.getD v []).length ∧ s = (p, q, (k : Int)) ∧ (p = true ↔ ∃ j, j < k ∧ ∃ u : Nat, (M.getD v []).getD j 0 = (u : Int) ∧ inG ins u ∧ inG out u) ∧ (q = true ↔ ∀ j, j < k → ∀ u : Nat, (M.getD v []).getD j 0 = (u : Int) → inG ins u → inG out u))
  (fun r => (r.1 = true ↔ ∃ u, edgeG M v u ∧ inG ins u ∧ inG out u) ∧ (r.2 = true ↔ ∀ u, edgeG M v u → inG ins u → inG out u)) (by
  rintro m s ⟨k, p, q, hk, rfl, hp, hq⟩
  by_cases hlt : k < (M.getD v []).length
  ·obtain ⟨u, hu, hun⟩ := g.mv v hv k hlt
   have j1 : (0 : Int) ≤ (u : Int) ∧ (u : Int) < lenI ins := idxN (by omega)
   have j2 : (0 : Int) ≤ (u : Int) ∧ (u : Int) < lenI out := idxN (by omega)
   have j4 : (0 : Int) ≤ (k : Int) ∧ (k : Int) < lenI (M.getD v []) := idxN hlt
   have hp' : ((∃ j, j < k + 1 ∧ ∃ u : Nat, (M.getD v []).getD j 0 = (u : Int) ∧ inG ins u ∧ inG out u) ↔ p = true ∨ (inG ins u ∧ inG out u)) := by
    rw [hp]
    constructor
    ·rintro ⟨j, hj, w, h1, h2⟩
     by_cases e : j = k
     ·subst e
      have : w = u := by rw [hu] at h1; omega
      subst this
      exact .inr h2
     ·exact .inl ⟨j, by omega, w, h1, h2⟩
    ·rintro (⟨j, hj, w, h1, h2⟩ | h)
     ·exact ⟨j, by omega, w, h1, h2⟩
     ·exact ⟨k, by omega, u, hu, h⟩
   have hq' : ((∀ j, j < k + 1 → ∀ u : Nat, (M.getD v []).getD j 0 = (u : Int) → inG ins u → inG out u) ↔ q = true ∧ (inG ins u → inG out u)) := by
    rw [hq]
    constructor
    ·intro h
     exact ⟨fun j hj => h j (by omega), h k (by omega) u hu⟩
    ·rintro ⟨h, h'⟩ j hj w h1 h2
     by_cases e : j = k
     ·subst e
      have : w = u := by rw [hu] at h1; omega
      subst this
      exact h' h2
     ·exact h j (by omega) w h1 h2
   unfold spec_l07Draw_B1
   simp only [Int.toNat_natCast, guard_pos j4, Option.bind_some, hu, guard_pos j1, guard_pos j2]
   simp only [lenI, ltN hlt, cond_true, nextN hlt (show (M.getD v []).length ≤ 4294967296 by omega)]
   unfold inG at hp' hq'
   cases hi : ins.getD u false with
   | false =>
    rw [hi] at hp' hq'
    exact .inl ⟨m - 1, _, by omega, rfl, k + 1, p, q, by omega, rfl, by unfold inG; rw [hp']; simp, by unfold inG; rw [hq']; simp⟩
   | true =>
    rw [hi] at hp' hq'
    cases ho : out.getD u false with
    | false =>
     rw [ho] at hp' hq'
     cases p <;> cases q <;> exact .inl ⟨m - 1, _, by omega, rfl, k + 1, _, _, by omega, rfl, by unfold inG; rw [hp']; simp, by unfold inG; rw [hq']; simp⟩
    | true =>
     rw [ho] at hp' hq'
     cases p <;> cases q <;> exact .inl ⟨m - 1, _, by omega, rfl, k + 1, _, _, by omega, rfl, by unfold inG; rw [hp']; simp, by unfold inG; rw [hq']; simp⟩
  ·unfold spec_l07Draw_B1
   simp only [Int.toNat_natCast, lenI, geN (show (M.getD v []).length ≤ k by omega), cond_false]
   have hkl : k = (M.getD v []).length := by omega
   subst hkl
   refine .inr ⟨_, rfl, ?_, ?_⟩
   ·rw [hp]
    constructor
    ·rintro ⟨j, hj, u, h1, h2⟩; exact ⟨u, ⟨j, hj, h1⟩, h2⟩
    ·rintro ⟨u, ⟨j, hj, h1⟩, h2⟩; exact ⟨j, hj, u, h1, h2⟩
   ·rw [hq]
    constructor
    ·rintro h u ⟨j, hj, h1⟩ h2; exact h j hj u h1 h2
    ·rintro h j hj u h1 h2; exact h u ⟨j, hj, h1⟩ h2) (M.getD v []).length (false, true, (0 : Int)) ⟨0, false, true, by omega, rfl, by simp, by simp⟩
 exact ⟨r.1, r.2, h1, h2, h3⟩

structure DrawI (n : Nat) (E : Nat → Nat → Prop) (own : Nat → Nat) (p : Nat) (ins set out : List Bool) : Prop where
 len : out.length = n
 sub : ∀ u, inG set u → inG out u
 inn : ∀ u, inG out u → inG ins u
 lev : ∀ u, inG out u → ∃ k, AttL E own p (inG ins) (inG set) k u

def ClosedAt (E : Nat → Nat → Prop) (own : Nat → Nat) (p : Nat) (ins out : List Bool) (v : Nat) : Prop := inG ins v → ¬ inG out v →
 (own v = p → ∀ u, E v u → inG ins u → ¬ inG out u) ∧ (own v ≠ p → ∃ u, E v u ∧ inG ins u ∧ ¬ inG out u)

theorem AttL.all {E : Nat → Nat → Prop} {own : Nat → Nat} {p : Nat} {ins T P : Nat → Prop} : ∀ (n : Nat), (∀ u, u < n → P u → ∃ k, AttL E own p ins T k u) → ∃ K, ∀ u, u < n → P u → AttL E own p ins T K u
 | 0, _ => ⟨0, fun u hu => absurd hu (Nat.not_lt_zero u)⟩
 | n + 1, h => by
  obtain ⟨K, hK⟩ := AttL.all n fun u hu => h u (by omega)
  by_cases hp : P n
  ·obtain ⟨k, hk⟩ := h n (by omega) hp
   refine ⟨max K k, fun u hu hP => ?_⟩
   by_cases e : u = n
   ·subst e; exact hk.mono (by omega)
   ·exact (hK u (by omega) hP).mono (by omega)
  ·refine ⟨K, fun u hu hP => ?_⟩
   by_cases e : u = n
   ·subst e; exact absurd hP hp
   ·exact hK u (by omega) hP

theorem inG_set {out : List Bool} {v u : Nat} (hv : v < out.length) : inG (out.set v true) u ↔ u = v ∨ inG out u := by
 unfold inG
 by_cases e : v = u
 ·subst e; simp [List.getD_eq_getElem?_getD, hv]
 ·rw [List.getD_eq_getElem?_getD, List.getElem?_set_ne e, ← List.getD_eq_getElem?_getD]
  constructor
  ·exact .inr
  ·rintro (h | h)
   ·exact absurd h.symm e
   ·exact h

theorem drawScan (g : Game n O R M) {ins set out0 : List Bool} (l1 : ins.length = n) {p : Nat} (h0 : DrawI n (edgeG M) (ownG O) p ins set out0) (c0 : Bool) :
  ∃ ch out, rounds (spec_l07Draw_B2 (O, R, M) ins (p : Int) (c0, out0)) (false, (0 : Int), out0) = some (ch, out) ∧ DrawI n (edgeG M) (ownG O) p ins set out ∧ (ch = false → ∀ v, ClosedAt (edgeG M) (ownG O) p ins out v) ∧ (ch = true → cnt out0 < cnt out) := by
 have n2 := g.n2
 have lo := g.lo
 have lm := g.lm
 have l0 := h0.len
 obtain ⟨r, h1, h2, h3, h4⟩ := rounds_inv (f := spec_l07Draw_B2 (O, R, M) ins (p : Int) (c0, out0))
  (fun m s => ∃ (v : Nat) (ch : Bool) (out : List Bool), m + v = n ∧ s = (ch, (v : Int), out) ∧ DrawI n (edgeG M) (ownG O) p ins set out ∧ (∀ u, inG out0 u → inG out u) ∧ (ch = false → ∀ u, u < v → ClosedAt (edgeG M) (ownG O) p ins out u) ∧ (ch = true → ∃ u, u < n ∧ ¬ inG out0 u ∧ inG out u))
  (fun r => DrawI n (edgeG M) (ownG O) p ins set r.2 ∧ (r.1 = false → ∀ v, ClosedAt (edgeG M) (ownG O) p ins r.2 v) ∧ (r.1 = true → cnt out0 < cnt r.2)) (by
  rintro m s ⟨v, ch, out, hm, rfl, hI, hsub, hcl, hnew⟩
  have hol := hI.len
  by_cases hv : v < n
  ·obtain ⟨x, y, hr, hx, hy⟩ := drawRow g l1 hol hv ch
   have j1 : (0 : Int) ≤ (v : Int) ∧ (v : Int) < lenI ins := idxN (by omega)
   have j2 : (0 : Int) ≤ (v : Int) ∧ (v : Int) < lenI out := idxN (by omega)
   have j4 : (0 : Int) ≤ (v : Int) ∧ (v : Int) < lenI M := idxN (by omega)
   have j5 : (0 : Int) ≤ (v : Int) ∧ (v : Int) < lenI O := idxN (by omega)
   have hd1 : decide ((v : Int) < lenI out0) = true := by simp only [lenI]; exact ltN (by omega)
   have skip : ClosedAt (edgeG M) (ownG O) p ins out v → ∃ n' s', n' < m ∧ some (Sum.inl ((ch, ((v + 1 : Nat) : Int), out) : Bool × Int × List Bool)) = some (Sum.inl s' : (Bool × Int × List Bool) ⊕ (Bool × List Bool)) ∧
     ∃ (v : Nat) (ch : Bool) (out : List Bool), n' + v = n ∧ s' = (ch, (v : Int), out) ∧ DrawI n (edgeG M) (ownG O) p ins set out ∧ (∀ u, inG out0 u → inG out u) ∧ (ch = false → ∀ u, u < v → ClosedAt (edgeG M) (ownG O) p ins out u) ∧ (ch = true → ∃ u, u < n ∧ ¬ inG out0 u ∧ inG out u) := fun hc =>
    ⟨m - 1, _, by omega, rfl, v + 1, ch, out, by omega, rfl, hI, hsub, fun h u hu => by
     by_cases e : u = v
     ·subst e; exact hc
     ·exact hcl h u (by omega), hnew⟩
   unfold spec_l07Draw_B2
   simp only [hd1, cond_true, Int.toNat_natCast, guard_pos j1, guard_pos j2, guard_pos j4, guard_pos j5, Option.bind_some, hr, nextN hv (show n ≤ 4294967296 by omega)]
   cases ho : out.getD v false with
   | true =>
    simp only [cond_true, Option.bind_some]
    exact .inl (skip fun _ h => absurd ho h)
   | false =>
    cases hi : ins.getD v false with
    | false =>
     exact .inl (skip fun h => by unfold inG at h; rw [hi] at h; cases h)
    | true =>
     simp only [Bool.not_true, cond_false, Option.bind_some]
     have hnv : ¬ inG out v := fun h => by unfold inG at h; rw [ho] at h; cases h
     have add : (∃ k, AttL (edgeG M) (ownG O) p (inG ins) (inG set) k v) → ∃ n' s', n' < m ∧ some (Sum.inl ((true, ((v + 1 : Nat) : Int), out.set v true) : Bool × Int × List Bool)) = some (Sum.inl s' : (Bool × Int × List Bool) ⊕ (Bool × List Bool)) ∧
       ∃ (v : Nat) (ch : Bool) (out : List Bool), n' + v = n ∧ s' = (ch, (v : Int), out) ∧ DrawI n (edgeG M) (ownG O) p ins set out ∧ (∀ u, inG out0 u → inG out u) ∧ (ch = false → ∀ u, u < v → ClosedAt (edgeG M) (ownG O) p ins out u) ∧ (ch = true → ∃ u, u < n ∧ ¬ inG out0 u ∧ inG out u) := fun hl => by
      have hs : ∀ u, inG (out.set v true) u ↔ u = v ∨ inG out u := fun u => inG_set (by omega)
      refine ⟨m - 1, _, by omega, rfl, v + 1, true, _, by omega, rfl, ⟨by simpa using hol, fun u h => (hs u).2 (.inr (hI.sub u h)), fun u h => ?_, fun u h => ?_⟩, fun u h => (hs u).2 (.inr (hsub u h)), fun h => (by cases h), fun _ => ⟨v, hv, fun h => hnv (hsub v h), (hs v).2 (.inl rfl)⟩⟩
      ·rcases (hs u).1 h with h | h
       ·subst h; exact hi
       ·exact hI.inn u h
      ·rcases (hs u).1 h with h | h
       ·subst h; exact hl
       ·exact hI.lev u h
     have eo := own_int g hv
     by_cases hown : ownG O v = p
     ·have e1 : (O.getD v 0 == (p : Int)) = true := by rw [eo, hown]; simp
      have e2 : (O.getD v 0 != (p : Int)) = false := by rw [eo, hown]; simp
      simp only [e1, e2, cond_true, cond_false]
      cases x with
      | true =>
       obtain ⟨u, q1, q2, q3⟩ := hx.1 rfl
       obtain ⟨k, hk⟩ := hI.lev u q3
       exact .inl (add ⟨k + 1, .inr (.inl ⟨hi, hown, u, q1, q2, hk⟩)⟩)
      | false =>
       exact .inl (skip fun _ _ => ⟨fun _ u q1 q2 q3 => (by have := hx.2 ⟨u, q1, q2, q3⟩; cases this), fun h => absurd hown h⟩)
     ·have e1 : (O.getD v 0 == (p : Int)) = false := by rw [eo]; simp only [beq_eq_false_iff_ne, ne_eq]; omega
      have e2 : (O.getD v 0 != (p : Int)) = true := by rw [eo]; simp only [bne_iff_ne, ne_eq]; omega
      simp only [e1, e2, cond_true, cond_false]
      cases y with
      | true =>
       obtain ⟨K, hK⟩ := AttL.all (E := edgeG M) (own := ownG O) (p := p) (ins := inG ins) (T := inG set) (P := fun u => edgeG M v u ∧ inG ins u) n (fun u _ hu => hI.lev u (hy.1 rfl u hu.1 hu.2))
       exact .inl (add ⟨K + 1, .inr (.inr ⟨hi, hown, fun u q1 q2 => hK u (edge_lt g hv q1) ⟨q1, q2⟩⟩)⟩)
      | false =>
       refine .inl (skip fun _ _ => ⟨fun h => absurd h hown, fun _ => Classical.byContradiction fun hn => ?_⟩)
       have : false = true := hy.2 fun u q1 q2 => Classical.byContradiction fun q3 => hn ⟨u, q1, q2, q3⟩
       cases this
  ·have hvn : v = n := by omega
   subst hvn
   have hd1 : decide ((v : Int) < lenI out0) = false := by simp only [lenI]; exact geN (by omega)
   unfold spec_l07Draw_B2
   simp only [hd1, cond_false]
   refine .inr ⟨_, rfl, hI, fun h u hu => hcl h u (by have := inG_lt hu; omega) hu, fun h => ?_⟩
   obtain ⟨u, q1, q2, q3⟩ := hnew h
   refine cnt_lt (by rw [l0, hol]) (fun w _ h => hsub w h) ⟨u, by omega, ?_, q3⟩
   cases h' : out0.getD u false with
   | false => rfl
   | true => exact absurd h' q2) n (false, (0 : Int), out0) ⟨0, false, out0, by omega, rfl, h0, fun _ h => h, fun _ u hu => absurd hu (Nat.not_lt_zero u), fun h => (by cases h)⟩
 exact ⟨r.1, r.2, h1, h2, h3, h4⟩

theorem draw_attr (g : Game n O R M) {ins set : List Bool} (l1 : ins.length = n) (l2 : set.length = n) (hs : ∀ u, inG set u → inG ins u) (p : Nat) : Attr (edgeG M) (ownG O) p (inG ins) (inG set) (inG (drawV O R M ins set (p : Int))) := by
 have n2 := g.n2
 obtain ⟨r, h1, h2, h3⟩ := rounds_inv (f := spec_l07Draw_B3 (O, R, M) ins (p : Int))
  (fun m s => ∃ (ch : Bool) (out : List Bool), m = (if ch then n - cnt out + 1 else 0) ∧ s = (ch, out) ∧ DrawI n (edgeG M) (ownG O) p ins set out ∧ (ch = false → ∀ v, ClosedAt (edgeG M) (ownG O) p ins out v))
  (fun r => DrawI n (edgeG M) (ownG O) p ins set r ∧ ∀ v, ClosedAt (edgeG M) (ownG O) p ins r v) (by
  rintro m s ⟨ch, out, hm, rfl, hI, hc⟩
  cases ch with
  | true =>
   obtain ⟨ch2, out2, e1, e2, e3, e4⟩ := drawScan g l1 hI true
   unfold spec_l07Draw_B3
   simp only [cond_true, e1, Option.bind_some]
   refine .inl ⟨if ch2 then n - cnt out2 + 1 else 0, _, ?_, rfl, ch2, out2, rfl, rfl, e2, e3⟩
   cases ch2 with
   | false => simp at hm ⊢; omega
   | true =>
    have := e4 rfl
    have h5 := cnt_len out2
    rw [e2.len] at h5
    simp at hm ⊢; omega
  | false =>
   unfold spec_l07Draw_B3
   simp only [cond_false]
   exact .inr ⟨_, rfl, hI, hc rfl⟩) _ (true, set) ⟨true, set, rfl, rfl, ⟨l2, fun _ h => h, hs, fun u h => ⟨0, h⟩⟩, fun h => (by cases h)⟩
 have e : drawV O R M ins set (p : Int) = r := by
  unfold drawV spec_l07Draw
  rw [guard_pos (by simp only [appMax]; omega), h1]; rfl
 rw [e]
 exact ⟨h2.sub, h2.inn, h2.lev, fun v q1 q2 => (h3 v q1 q2).1, fun v q1 q2 => (h3 v q1 q2).2⟩

theorem rest_live {E : Nat → Nat → Prop} {own : Nat → Nat} {p : Nat} {ins T A : Nat → Prop} (a : Attr E own p ins T A) (live : ∀ v, ins v → ∃ u, E v u ∧ ins u) : ∀ v, ins v ∧ ¬ A v → ∃ u, E v u ∧ ins u ∧ ¬ A u := by
 rintro v ⟨h1, h2⟩
 by_cases e : own v = p
 ·obtain ⟨u, q1, q2⟩ := live v h1
  exact ⟨u, q1, q2, a.cmine v h1 h2 e u q1 q2⟩
 ·exact a.ctheir v h1 h2 e

theorem inG_sub {l m : List Bool} {v : Nat} : inG (subL l m) v ↔ inG l v ∧ ¬ inG m v := by
 unfold inG
 rw [subL_get]
 cases l.getD v false <;> cases m.getD v false <;> simp

theorem inG_tab {n : Nat} {f : Nat → Bool} {v : Nat} : inG (tab n f) v ↔ v < n ∧ f v = true := by
 constructor
 ·intro h
  have hl := inG_lt h
  rw [tab_len] at hl
  unfold inG at h
  rw [tab_get hl] at h
  exact ⟨hl, h⟩
 ·rintro ⟨h1, h2⟩
  unfold inG
  rw [tab_get h1]; exact h2

theorem inG_ext {P Q : Nat → Prop} (h : ∀ v, P v ↔ Q v) : P = Q := funext fun v => propext (h v)

end
end Go.Proofs


/-
 Each node is won by who is told to win it.
-/
namespace Go.Proofs
open Go.Ide Go.IntWalk

theorem Wins.set_eq {E : Nat → Nat → Prop} {own R : Nat → Nat} {p : Nat} {ins ins' S S' : Nat → Prop} {s : Nat → Nat} (h : Wins E own R p ins S s) (hi : ∀ v, ins v ↔ ins' v) (hS : ∀ v, S v ↔ S' v) : Wins E own R p ins' S' s := by
 rw [← inG_ext hi, ← inG_ext hS]; exact h

theorem Attr.set_eq {E : Nat → Nat → Prop} {own : Nat → Nat} {p : Nat} {ins T T' A : Nat → Prop} (h : Attr E own p ins T A) (hT : ∀ v, T v ↔ T' v) : Attr E own p ins T' A := by
 rw [← inG_ext hT]; exact h

theorem wins_none {E : Nat → Nat → Prop} {own R : Nat → Nat} {p : Nat} {ins S : Nat → Prop} (h : ∀ v, ¬ S v) : Wins E own R p ins S id :=
 ⟨fun v hv => absurd hv (h v), fun v hv => absurd hv (h v), fun v hv => absurd hv (h v), fun w hw => absurd (hw 0) (h _)⟩

section
variable {n : Nat} {O R : List Int} {M : List (List Int)}

theorem winV_ok (g : Game n O R M) : ∀ (c : Nat) {ins : List Bool}, ins.length = n → cnt ins = c → (∀ v, inG ins v → ∃ u, edgeG M v u ∧ inG ins u) →
  Solved (edgeG M) (ownG O) (rkG R) (inG ins) (inG (winV O R M ins)) := by
 intro c
 induction c using Nat.strongRecOn with
 | _ c ih =>
  intro ins l1 hc live
  rw [winV_eq g l1]
  unfold winStep
  cases hr : decide (rkI R ins < 0) with
  | true =>
   have hr : rkI R ins < 0 := of_decide_eq_true hr
   have hno : ∀ v, ¬ inG ins v := fun v hv => by
    rcases rk_cases g l1 with ⟨_, h⟩ | ⟨h, _⟩
    ·have := h v (by have := inG_lt hv; omega)
     unfold inG at hv
     rw [this] at hv; cases hv
    ·omega
   exact ⟨⟨id, wins_none fun v h => hno v h.1⟩, ⟨id, wins_none fun v h => hno v h.1⟩⟩
  | false =>
   have hr : 0 ≤ rkI R ins := by simpa using hr
   simp only [cond_false]
   -- the greatest rank
   obtain ⟨d, hd⟩ : ∃ d : Nat, rkI R ins = (d : Int) := ⟨(rkI R ins).toNat, by omega⟩
   have hpl : plI R ins = ((d % 2 : Nat) : Int) := by
    unfold plI
    rw [hd, Int.tmod_eq_emod_of_nonneg (by omega)]; omega
   obtain ⟨k1, -⟩ := rank_of g l1 n (Nat.le_refl _)
   have ek : rankN ins R n = (d : Int) := by rw [← hd]; unfold rkI; rw [l1]
   have hmax : ∀ v, inG ins v → rkG R v ≤ d := fun v hv => by
    have h := k1 v (by have := inG_lt hv; omega) hv
    unfold rkG; omega
   have htop : ∀ v, inG (topL R ins) v ↔ inG ins v ∧ rkG R v = d := fun v => by
    unfold topL
    rw [inG_tab, Bool.and_eq_true, beq_iff_eq, hd]
    constructor
    ·rintro ⟨h1, h2, h3⟩
     exact ⟨h2, by unfold rkG; omega⟩
    ·rintro ⟨h1, h2⟩
     have hv := inG_lt h1
     obtain ⟨r, hr, _⟩ := g.rk v (by omega)
     exact ⟨hv, h1, by unfold rkG at h2; omega⟩
   have lt : (topL R ins).length = n := by unfold topL; rw [tab_len]; exact l1
   have a := (draw_attr g l1 lt (fun u h => ((htop u).1 h).1) (d % 2)).set_eq htop
   have hnear : drawV O R M ins (topL R ins) ((d % 2 : Nat) : Int) = nearV O R M ins := by unfold nearV; rw [hpl]
   rw [hnear] at a
   have hrest : ∀ v, inG (restV O R M ins) v ↔ inG ins v ∧ ¬ inG (nearV O R M ins) v := fun v => inG_sub
   obtain ⟨q1, q2⟩ := rest_lt (M := M) (O := O) g l1 hr
   obtain ⟨⟨s1, w1⟩, ⟨s0, w0⟩⟩ := ih _ (by omega) q1 rfl (fun v hv => by
    obtain ⟨u, h1, h2, h3⟩ := rest_live a live v ((hrest v).1 hv)
    exact ⟨u, h1, (hrest u).2 ⟨h2, h3⟩⟩)
   have hother : ∀ v, inG (otherV O R M ins (winV O R M (restV O R M ins))) v ↔ inG (restV O R M ins) v ∧ (if d % 2 = 0 then inG (winV O R M (restV O R M ins)) v else ¬ inG (winV O R M (restV O R M ins)) v) := fun v => by
    unfold otherV
    rw [inG_tab, Bool.and_eq_true, hpl]
    constructor
    ·rintro ⟨h1, h2, h3⟩
     refine ⟨h2, ?_⟩
     by_cases e : d % 2 = 0
     ·rw [e] at h3; rw [if_pos e]
      unfold inG; simpa using h3
     ·have e1 : d % 2 = 1 := by omega
      rw [e1] at h3; rw [if_neg e]
      unfold inG; simpa using h3
    ·rintro ⟨h1, h2⟩
     refine ⟨by have := inG_lt h1; omega, h1, ?_⟩
     by_cases e : d % 2 = 0
     ·rw [if_pos e] at h2; rw [e]
      unfold inG at h2; rw [h2]; rfl
     ·have e1 : d % 2 = 1 := by omega
      rw [if_neg e] at h2; rw [e1]
      unfold inG at h2
      have : (winV O R M (restV O R M ins)).getD v false = false := by simpa using h2
      rw [this]; rfl
   cases hs : someV O R M ins (winV O R M (restV O R M ins)) with
   | false =>
    simp only [cond_false]
    have hno : ∀ v, ¬ inG (otherV O R M ins (winV O R M (restV O R M ins))) v := fun v hv => by
     unfold someV at hs
     rw [List.any_eq_false] at hs
     have hl := inG_lt hv
     refine hs _ (List.getElem_mem hl) ?_
     unfold inG at hv
     rw [List.getD_eq_getElem?_getD, List.getElem?_eq_getElem hl] at hv
     exact hv
    have hW : ∃ s', Wins (edgeG M) (ownG O) (rkG R) (d % 2) (inG ins) (inG ins) s' := by
     by_cases e : d % 2 = 0
     ·refine wins_all live hmax rfl a (s := s0) ?_
      rw [e]
      refine w0.set_eq hrest fun v => ?_
      rw [← hrest v]
      refine ⟨fun h => h.1, fun h => ⟨h, fun h' => hno v ((hother v).2 ⟨h, by rw [if_pos e]; exact h'⟩)⟩⟩
     ·have e1 : d % 2 = 1 := by omega
      refine wins_all live hmax rfl a (s := s1) ?_
      rw [e1]
      refine w1.set_eq hrest fun v => ?_
      rw [← hrest v]
      refine ⟨fun h => h.1, fun h => ⟨h, Classical.byContradiction fun h' => hno v ((hother v).2 ⟨h, by rw [if_neg e]; exact h'⟩)⟩⟩
    obtain ⟨s', hW⟩ := hW
    by_cases e : d % 2 = 0
    ·have hres : ∀ v, ¬ inG (tab ins.length fun i => ins.getD i false && (plI R ins == 1)) v := fun v h => by
      rw [inG_tab, Bool.and_eq_true, hpl, e] at h
      have := h.2.2
      simp at this
     rw [e] at hW
     exact ⟨⟨id, wins_none fun v h => hres v h.2⟩, ⟨s', hW.set_eq (fun _ => Iff.rfl) fun v => ⟨fun h => ⟨h, hres v⟩, fun h => h.1⟩⟩⟩
    ·have e1 : d % 2 = 1 := by omega
     have hres : ∀ v, inG ins v → inG (tab ins.length fun i => ins.getD i false && (plI R ins == 1)) v := fun v h => by
      rw [inG_tab, Bool.and_eq_true, hpl, e1]
      exact ⟨inG_lt h, h, rfl⟩
     rw [e1] at hW
     exact ⟨⟨s', hW.set_eq (fun _ => Iff.rfl) fun v => ⟨fun h => ⟨h, hres v h⟩, fun h => h.1⟩⟩, ⟨id, wins_none fun v h => h.2 (hres v h.1)⟩⟩
   | true =>
    simp only [cond_true]
    obtain ⟨q3, q4⟩ := rest2_lt g l1 hs
    have lo : (otherV O R M ins (winV O R M (restV O R M ins))).length = n := by rw [other_len]; exact l1
    have hq : wsub .i64 1 (plI R ins) = ((1 - d % 2 : Nat) : Int) := by rw [hpl, wsubI (by omega)]; omega
    have b := draw_attr g l1 lo (fun u h => ((hrest u).1 ((hother u).1 h).1).1) (1 - d % 2)
    have hlost : drawV O R M ins (otherV O R M ins (winV O R M (restV O R M ins))) ((1 - d % 2 : Nat) : Int) = lostV O R M ins (winV O R M (restV O R M ins)) := by unfold lostV; rw [hq]
    rw [hlost] at b
    have hrest2 : ∀ v, inG (rest2V O R M ins (winV O R M (restV O R M ins))) v ↔ inG ins v ∧ ¬ inG (lostV O R M ins (winV O R M (restV O R M ins))) v := fun v => inG_sub
    obtain ⟨⟨t1, u1⟩, ⟨t0, u0⟩⟩ := ih _ (by omega) q3 rfl (fun v hv => by
     obtain ⟨u, h1, h2, h3⟩ := rest_live b live v ((hrest2 v).1 hv)
     exact ⟨u, h1, (hrest2 u).2 ⟨h2, h3⟩⟩)
    have win2 := fun v (h : inG (winV O R M (rest2V O R M ins (winV O R M (restV O R M ins)))) v) => winV_in g _ q3 rfl v (by have := inG_lt h; rw [winV_len] at this; omega) h
    generalize hB : lostV O R M ins (winV O R M (restV O R M ins)) = B at *
    generalize hR2 : rest2V O R M ins (winV O R M (restV O R M ins)) = R2 at *
    generalize winV O R M R2 = V2 at *
    by_cases e : d % 2 = 0
    ·rw [e] at a b hother
     simp only [if_true, Nat.sub_zero] at hother b
     have b' := b.set_eq hother
     obtain ⟨⟨x, hx⟩, ⟨y, hy⟩⟩ := wins_some (p := 0) (q := 1) (by omega) (fun v => (own_01 O v).symm) a (w1.set_eq hrest fun _ => Iff.rfl) b' (u0.set_eq hrest2 fun _ => Iff.rfl) (u1.set_eq hrest2 fun _ => Iff.rfl)
     have hres : ∀ v, inG (tab ins.length fun i => V2.getD i false || (B.getD i false && (plI R ins == 0))) v ↔ inG V2 v ∨ inG B v := fun v => by
      rw [inG_tab, Bool.or_eq_true, Bool.and_eq_true, hpl, e]
      constructor
      ·rintro ⟨_, h | h⟩
       ·exact .inl h
       ·exact .inr h.1
      ·intro h
       have hi : inG ins v := by
        rcases h with h | h
        ·exact ((hrest2 v).1 (win2 v h)).1
        ·exact b.inn v h
       refine ⟨inG_lt hi, ?_⟩
       rcases h with h | h
       ·exact .inl h
       ·exact .inr ⟨h, rfl⟩
     refine ⟨⟨y, hy.set_eq (fun _ => Iff.rfl) fun v => ?_⟩, ⟨x, hx.set_eq (fun _ => Iff.rfl) fun v => ?_⟩⟩
     ·rw [hres v]
      constructor
      ·rintro (h | h)
       ·exact ⟨b.inn v h, .inr h⟩
       ·exact ⟨((hrest2 v).1 h.1).1, .inl h.2⟩
      ·rintro ⟨h1, h | h⟩
       ·exact .inr ⟨win2 v h, h⟩
       ·exact .inl h
     ·rw [hres v, hrest2 v]
      constructor
      ·rintro ⟨⟨h1, h2⟩, h3⟩
       exact ⟨h1, fun h => h.elim h3 h2⟩
      ·rintro ⟨h1, h2⟩
       exact ⟨⟨h1, fun h => h2 (.inr h)⟩, fun h => h2 (.inl h)⟩
    ·have e1 : d % 2 = 1 := by omega
     rw [e1] at a b hother
     simp only [Nat.succ_ne_zero, if_false, Nat.sub_self] at hother b
     have b' := b.set_eq hother
     obtain ⟨⟨x, hx⟩, ⟨y, hy⟩⟩ := wins_some (p := 1) (q := 0) (by omega) (fun v => own_01 O v) a (w0.set_eq hrest fun _ => Iff.rfl) b' (u1.set_eq hrest2 fun _ => Iff.rfl) (u0.set_eq hrest2 fun _ => Iff.rfl)
     have hres : ∀ v, inG (tab ins.length fun i => V2.getD i false || (B.getD i false && (plI R ins == 0))) v ↔ inG V2 v := fun v => by
      rw [inG_tab, Bool.or_eq_true, Bool.and_eq_true, hpl, e1]
      constructor
      ·rintro ⟨_, h | h⟩
       ·exact h
       ·have := h.2; simp at this
      ·intro h
       exact ⟨inG_lt ((hrest2 v).1 (win2 v h)).1, .inl h⟩
     refine ⟨⟨x, hx.set_eq (fun _ => Iff.rfl) fun v => ?_⟩, ⟨y, hy.set_eq (fun _ => Iff.rfl) fun v => ?_⟩⟩
     ·rw [hres v, hrest2 v]
      exact ⟨fun h => ⟨h.1.1, h.2⟩, fun h => ⟨(hrest2 v).1 (win2 v h.2), h.2⟩⟩
     ·rw [hres v, hrest2 v]
      constructor
      ·rintro (h | ⟨⟨h1, h2⟩, h3⟩)
       ·exact ⟨b.inn v h, fun h' => ((hrest2 v).1 (win2 v h')).2 h⟩
       ·exact ⟨h1, h3⟩
      ·rintro ⟨h1, h2⟩
       by_cases hb : inG B v
       ·exact .inl hb
       ·exact .inr ⟨⟨h1, hb⟩, h2⟩

noncomputable def wonG (O R : List Int) (M : List (List Int)) (v : Nat) : Nat := if (solV O R M).getD v 0 = 1 then 1 else 0

theorem sol_get (g : Game n O R M) {v : Nat} (hv : v < n) : (solV O R M).getD v 0 = ((wonG O R M v : Nat) : Int) ∧ (wonG O R M v = 1 ∨ wonG O R M v = 0) := by
 have lo := g.lo
 have : (solV O R M).getD v 0 = bif (winV O R M (List.replicate O.length true)).getD v false then (1 : Int) else 0 := by
  unfold solV
  rw [List.getD_eq_getElem?_getD, List.getElem?_map, List.getElem?_range (by omega)]; rfl
 unfold wonG
 rw [this]
 cases (winV O R M (List.replicate O.length true)).getD v false <;> simp

theorem sol_wins (g : Game n O R M) (live : Live n M) (p : Nat) (hp : p = 1 ∨ p = 0) : ∃ s, Wins (edgeG M) (ownG O) (rkG R) p (fun v => v < n) (fun v => v < n ∧ wonG O R M v = p) s := by
 have lo := g.lo
 have hin : ∀ v, inG (List.replicate n true) v ↔ v < n := fun v => by
  unfold inG
  rw [List.getD_eq_getElem?_getD, List.getElem?_replicate]
  split
  ·rename_i h; simp [h]
  ·rename_i h; simp; omega
 obtain ⟨⟨s1, w1⟩, ⟨s0, w0⟩⟩ := winV_ok g _ (ins := List.replicate n true) (by simp) rfl (fun v hv => by
  have hv := (hin v).1 hv
  have hl := live v hv
  obtain ⟨q, hq, hqn⟩ := g.mv v hv 0 (by omega)
  exact ⟨q, ⟨0, by omega, hq⟩, (hin q).2 hqn⟩)
 have hw : ∀ v, v < n → (inG (winV O R M (List.replicate n true)) v ↔ wonG O R M v = 1) := fun v hv => by
  have e : (solV O R M).getD v 0 = bif (winV O R M (List.replicate n true)).getD v false then (1 : Int) else 0 := by
   unfold solV
   rw [List.getD_eq_getElem?_getD, List.getElem?_map, List.getElem?_range (by omega), lo]; rfl
  unfold wonG inG
  rcases Bool.eq_false_or_eq_true ((winV O R M (List.replicate n true)).getD v false) with h | h <;> rw [h] at e ⊢ <;> rw [e] <;> simp
 rcases hp with rfl | rfl
 ·refine ⟨s1, w1.set_eq hin fun v => ?_⟩
  rw [hin v]
  exact ⟨fun h => ⟨h.1, (hw v h.1).1 h.2⟩, fun h => ⟨h.1, (hw v h.1).2 h.2⟩⟩
 ·refine ⟨s0, w0.set_eq hin fun v => ?_⟩
  rw [hin v]
  exact ⟨fun h => ⟨h.1, by have := (sol_get g h.1).2; have := mt (hw v h.1).2 h.2; omega⟩, fun h => ⟨h.1, fun h' => by have := (hw v h.1).1 h'; omega⟩⟩

theorem sol_has (g : Game n O R M) (live : Live n M) {p : Nat} (hp : p = 1 ∨ p = 0) {S : Nat → Prop} {s : Nat → Nat} (h : Wins (edgeG M) (ownG O) (rkG R) p (fun v => v < n) S s) {v : Nat} (hv : S v) : wonG O R M v = p := by
 have hvn := h.sub v hv
 refine Classical.byContradiction fun hne => ?_
 have hq : wonG O R M v = 1 ∨ wonG O R M v = 0 := (sol_get g hvn).2
 obtain ⟨t, ht⟩ := sol_wins g live (wonG O R M v) hq
 refine h.apart ht (fun e => hne e.symm) (fun u => ?_) hv ⟨hvn, rfl⟩
 have := own_01 O u
 omega

end
end Go.Proofs


/-
 Games that are turned around; moves that win.
-/
namespace Go.Proofs
open Go.Ide Go.IntWalk

section
variable {n : Nat} {O R : List Int} {M : List (List Int)}

theorem turnO_get {O : List Int} {v : Nat} (hv : v < O.length) : (turnO O).getD v 0 = 1 - O.getD v 0 := by
 unfold turnO
 simp [List.getD_eq_getElem?_getD, hv]
theorem turnR_get {R : List Int} {v : Nat} (hv : v < R.length) : (turnR R).getD v 0 = R.getD v 0 + 1 := by
 unfold turnR
 simp [List.getD_eq_getElem?_getD, hv]

theorem turn_won (g : Game n O R M) (g' : Game n (turnO O) (turnR R) M) (live : Live n M) {v : Nat} (hv : v < n) : wonG (turnO O) (turnR R) M v = 1 - wonG O R M v := by
 have lo := g.lo
 have lr := g.lr
 have hw := (sol_get g hv).2
 obtain ⟨s, h⟩ := sol_wins g live (wonG O R M v) hw
 have ho : ∀ u, u < n → ownG (turnO O) u = 1 - ownG O u := fun u hu => by
  have e1 := own_int g' hu
  have e2 := own_int g hu
  rw [turnO_get (by omega)] at e1
  have := own_01 O u
  omega
 have hr : ∀ u, u < n → rkG (turnR R) u = rkG R u + 1 := fun u hu => by
  obtain ⟨r, er, _⟩ := g.rk u hu
  unfold rkG
  rw [turnR_get (by omega), er]; omega
 generalize hp : wonG O R M v = p at *
 have hown : ∀ u, u < n → (ownG (turnO O) u = 1 - p ↔ ownG O u = p) := fun u hu => by
  rw [ho u hu]
  have := own_01 O u
  omega
 refine sol_has g' live (p := 1 - p) (by omega) (S := fun u => u < n ∧ wonG O R M u = p) (s := s) ⟨h.sub, fun u h1 h2 => h.mine u h1 ((hown u h1.1).1 h2), fun u h1 h2 => h.their u h1 (fun h3 => h2 ((hown u h1.1).2 h3)), fun w h1 h2 h3 => ?_⟩ ⟨hv, hp⟩
 obtain ⟨r, q1, q2, N, q3⟩ := h.win w h1 h2 (fun i hi => h3 i ((hown _ (h1 i).1).2 hi))
 refine ⟨r + 1, by omega, fun K => ?_, N, fun i hi => ?_⟩
 ·obtain ⟨i, hi, e⟩ := q2 K
  exact ⟨i, hi, by rw [hr _ (h1 i).1, e]⟩
 ·rw [hr _ (h1 i).1]
  have := q3 i hi; omega

theorem row_put {N : List (List Int)} {v : Nat} (hv : v < N.length) (x : List Int) (u : Nat) : (N.set v x).getD u [] = if u = v then x else N.getD u [] := by
 by_cases e : u = v
 ·subst e; rw [if_pos rfl]; simp [List.getD_eq_getElem?_getD, hv]
 ·rw [if_neg e, List.getD_eq_getElem?_getD, List.getElem?_set_ne (fun h => e h.symm), ← List.getD_eq_getElem?_getD]

theorem edge_put {N : List (List Int)} {v q : Nat} (hv : v < N.length) (u w : Nat) : edgeG (N.set v [(q : Int)]) u w ↔ if u = v then w = q else edgeG N u w := by
 unfold edgeG
 rw [row_put hv]
 by_cases e : u = v
 ·rw [if_pos e, if_pos e]
  constructor
  ·rintro ⟨k, hk, h⟩
   have : k = 0 := by simpa using hk
   subst this
   have : (q : Int) = (w : Int) := by simpa using h
   omega
  ·rintro rfl
   exact ⟨0, by simp, by simp⟩
 ·rw [if_neg e, if_neg e]

theorem game_put {N : List (List Int)} (g : Game n O R N) {v q : Nat} (hv : v < n) (hq : q < n) : Game n O R (N.set v [(q : Int)]) := by
 have lm := g.lm
 refine ⟨g.n1, g.n2, g.lo, g.lr, by simpa using lm, g.ow, g.rk, fun u hu j hj => ?_, fun u hu => ?_⟩
 ·rw [row_put (by omega)] at hj ⊢
  by_cases e : u = v
  ·rw [if_pos e] at hj ⊢
   have : j = 0 := by simpa using hj
   subst this
   exact ⟨q, by simp, hq⟩
  ·rw [if_neg e] at hj ⊢
   exact g.mv u hu j hj
 ·rw [row_put (by omega)]
  by_cases e : u = v
  ·rw [if_pos e]; simp
  ·rw [if_neg e]; exact g.ml u hu

theorem live_put {N : List (List Int)} (l : Live n N) (lm : N.length = n) {v q : Nat} (hv : v < n) : Live n (N.set v [(q : Int)]) := fun u hu => by
 rw [row_put (by omega)]
 split
 ·simp
 ·exact l u hu

theorem put_won {N : List (List Int)} (g : Game n O R N) (l : Live n N) {v q : Nat} (hv : v < n) (hq : edgeG N v q) (hw : wonG O R (N.set v [(q : Int)]) v = ownG O v) {u : Nat} (hu : u < n) : wonG O R (N.set v [(q : Int)]) u = wonG O R N u := by
 have lm := g.lm
 have hqn := edge_lt g hv hq
 have g' := game_put g hv hqn
 have l' := live_put (q := q) l lm hv
 have hE := fun x y => edge_put (N := N) (v := v) (q := q) (by omega) x y
 have hsub : ∀ x y, edgeG (N.set v [(q : Int)]) x y → edgeG N x y := fun x y h => by
  have h := (hE x y).1 h
  by_cases e : x = v
  ·rw [if_pos e] at h; rw [e, h]; exact hq
  ·rw [if_neg e] at h; exact h
 have hkeep : ∀ x y, x ≠ v → edgeG N x y → edgeG (N.set v [(q : Int)]) x y := fun x y e h => (hE x y).2 (by rw [if_neg e]; exact h)
 have hp := own_01 O v
 by_cases hc : wonG O R N u = ownG O v
 ·-- his own nodes
  rw [hc]
  obtain ⟨s, hs⟩ := sol_wins g l (ownG O v) hp
  obtain ⟨s', hs'⟩ := sol_wins g' l' (ownG O v) hp
  generalize hP : ownG O v = p at *
  let S : Nat → Prop := fun x => x < n ∧ wonG O R N x = p
  let S' : Nat → Prop := fun x => x < n ∧ wonG O R (N.set v [(q : Int)]) x = p
  classical
  let t : Nat → Nat := fun x => if S' x then s' x else s x
  have ht1 : ∀ x, S' x → t x = s' x := fun x h => if_pos h
  have ht2 : ∀ x, ¬ S' x → t x = s x := fun x h => if_neg h
  have hne : ∀ x, ¬ S' x → x ≠ v := fun x h e => h (by rw [e]; exact ⟨hv, hw⟩)
  refine sol_has g' l' hp (S := fun x => S x ∨ S' x) (s := t) ⟨fun x h => h.elim (fun h => h.1) (fun h => h.1), fun x h1 h2 => ?_, fun x h1 h2 y h3 h4 => ?_, fun w h1 h2 h3 => ?_⟩ (.inl ⟨hu, hc⟩)
  ·by_cases e : S' x
   ·rw [ht1 x e]
    have := hs'.mine x e h2
    exact ⟨this.1, .inr this.2⟩
   ·rw [ht2 x e]
    have hS : S x := h1.resolve_right e
    have := hs.mine x hS h2
    exact ⟨hkeep _ _ (hne x e) this.1, .inl this.2⟩
  ·by_cases e : S' x
   ·exact .inr (hs'.their x e h2 y h3 h4)
   ·exact .inl (hs.their x (h1.resolve_right e) h2 y (hsub _ _ h3) h4)
  ·by_cases hx : ∃ i, S' (w i)
   ·obtain ⟨j, hj⟩ := hx
    have hin : ∀ i, w i < n := fun i => (h1 i).elim (fun h => h.1) (fun h => h.1)
    have all : ∀ k, S' (w (k + j)) := fun k => by
     induction k with
     | zero => rw [Nat.zero_add]; exact hj
     | succ k ih =>
      by_cases e : ownG O (w (k + j)) = p
      ·have h := h3 (k + j) e
       rw [ht1 _ ih, show k + j + 1 = k + 1 + j by omega] at h
       rw [h]
       exact (hs'.mine _ ih e).2
      ·have h := h2 (k + j)
       rw [show k + j + 1 = k + 1 + j by omega] at h
       exact hs'.their _ ih e _ h (hin _)
    refine WinP.tail (k := j) (hs'.win _ all (fun i => ?_) (fun i ho => ?_))
    ·have := h2 (i + j); rwa [show i + j + 1 = i + 1 + j by omega] at this
    ·have := h3 (i + j) ho
     rw [show i + j + 1 = i + 1 + j by omega] at this
     rw [this, ht1 _ (all i)]
   ·have hn : ∀ i, ¬ S' (w i) := fun i h => hx ⟨i, h⟩
    exact hs.win w (fun i => (h1 i).resolve_right (hn i)) (fun i => hsub _ _ (h2 i)) (fun i ho => by rw [h3 i ho, ht2 _ (hn i)])
 ·-- the other's nodes
  have hq1 := (sol_get g hu).2
  obtain ⟨s, hs⟩ := sol_wins g l (wonG O R N u) hq1
  generalize hP : wonG O R N u = p at *
  exact sol_has g' l' hq1 (S := fun x => x < n ∧ wonG O R N x = p) (s := s) ⟨hs.sub, fun x h1 h2 => by
   have := hs.mine x h1 h2
   exact ⟨hkeep _ _ (fun e => hc (by rw [← e, h2])) this.1, this.2⟩, fun x h1 h2 y h3 h4 => hs.their x h1 h2 y (hsub _ _ h3) h4,
   fun w h1 h2 h3 => hs.win w h1 (fun i => hsub _ _ (h2 i)) h3⟩ ⟨hu, hP⟩

theorem put_some {N : List (List Int)} (g : Game n O R N) (l : Live n N) {v : Nat} (hv : v < n) (hw : wonG O R N v = ownG O v) : ∃ q, edgeG N v q ∧ wonG O R (N.set v [(q : Int)]) v = ownG O v := by
 have lm := g.lm
 obtain ⟨s, hs⟩ := sol_wins g l (ownG O v) (own_01 O v)
 have hq := (hs.mine v ⟨hv, hw⟩ rfl).1
 have hqn := edge_lt g hv hq
 have hE := fun x y => edge_put (N := N) (v := v) (q := s v) (by omega) x y
 have hsub : ∀ x y, edgeG (N.set v [(s v : Int)]) x y → edgeG N x y := fun x y h => by
  have h := (hE x y).1 h
  by_cases e : x = v
  ·rw [if_pos e] at h; rw [e, h]; exact hq
  ·rw [if_neg e] at h; exact h
 refine ⟨s v, hq, sol_has (game_put g hv hqn) (live_put l lm hv) (own_01 O v) (S := fun x => x < n ∧ wonG O R N x = ownG O v) (s := s) ⟨hs.sub, fun x h1 h2 => ?_, fun x h1 h2 y h3 h4 => hs.their x h1 h2 y (hsub _ _ h3) h4, fun w h1 h2 h3 => hs.win w h1 (fun i => hsub _ _ (h2 i)) h3⟩ ⟨hv, hw⟩⟩
 have := hs.mine x h1 h2
 refine ⟨(hE _ _).2 ?_, this.2⟩
 by_cases e : x = v
 ·rw [if_pos e, e]
 ·rw [if_neg e]; exact this.1

theorem tryOk (g : Game n O R M) {N0 : List (List Int)} (g0 : Game n O R N0) (l0 : Live n N0) {v : Nat} (hv : v < n) (hrow : N0.getD v [] = M.getD v []) (hw : wonG O R N0 v = ownG O v) {res : List Int} (lres : res.length = n) :
  ∃ q : Nat, edgeG M v q ∧ rounds (impl_MovesOfGame_B1 (O, R, M) ((v : Int), res, N0)) ((0 : Int), N0) = some (res.set v (q : Int), N0.set v [(q : Int)]) ∧ wonG O R (N0.set v [(q : Int)]) v = ownG O v := by
 have n2 := g.n2
 have lo := g.lo
 have hl := g.ml v hv
 have lm0 := g0.lm
 obtain ⟨r, h1, q, rfl, h2, h3⟩ := rounds_inv (f := impl_MovesOfGame_B1 (O, R, M) ((v : Int), res, N0))
  (fun m s => ∃ (k : Nat) (N : List (List Int)), m + k = (M.getD v []).length ∧ s = ((k : Int), N) ∧ N.length = n ∧ (∀ x, N.set v x = N0.set v x) ∧ ∀ j, j < k → ∀ u : Nat, (M.getD v []).getD j 0 = (u : Int) → wonG O R (N0.set v [(u : Int)]) v ≠ ownG O v)
  (fun r => ∃ q : Nat, r = (res.set v (q : Int), N0.set v [(q : Int)]) ∧ edgeG M v q ∧ wonG O R (N0.set v [(q : Int)]) v = ownG O v) (by
  rintro m s ⟨k, N, hm, rfl, lN, hN, hno⟩
  by_cases hk : k < (M.getD v []).length
  ·obtain ⟨q, hq, hqn⟩ := g.mv v hv k hk
   have hgq := game_put g0 hv hqn
   have jk : (0 : Int) ≤ (k : Int) ∧ (k : Int) < lenI (M.getD v []) := idxN hk
   have jn : (0 : Int) ≤ (v : Int) ∧ (v : Int) < lenI N := idxN (by omega)
   have jr : (0 : Int) ≤ (v : Int) ∧ (v : Int) < lenI res := idxN (by omega)
   have js : (0 : Int) ≤ (v : Int) ∧ (v : Int) < lenI (solV O R (N0.set v [(q : Int)])) := idxN (by rw [solV_len]; omega)
   have hd : decide ((k : Int) < lenI (M.getD v [])) = true := by simp only [lenI]; exact ltN hk
   have e1 := nextN hk (show (M.getD v []).length ≤ 4294967296 by omega)
   have eo := own_int g hv
   have es := (sol_get hgq hv).1
   unfold impl_MovesOfGame_B1
   simp only [Int.toNat_natCast, guard_pos jk, guard_pos jn, hd, cond_true, Option.bind_some, hq, hN, implWinners hgq, guard_pos js, guard_pos jr, e1, eo, es]
   by_cases hc : wonG O R (N0.set v [(q : Int)]) v = ownG O v
   ·have : ((wonG O R (N0.set v [(q : Int)]) v : Int) == (ownG O v : Int)) = true := by rw [hc]; simp
    simp only [this, cond_true]
    exact .inr ⟨_, rfl, q, rfl, ⟨k, hk, hq⟩, hc⟩
   ·have : ((wonG O R (N0.set v [(q : Int)]) v : Int) == (ownG O v : Int)) = false := by simp only [beq_eq_false_iff_ne, ne_eq]; omega
    simp only [this, cond_false]
    refine .inl ⟨m - 1, _, by omega, rfl, k + 1, _, by omega, rfl, by simpa using lm0, fun x => by rw [List.set_set], fun j hj u hu => ?_⟩
    by_cases e : j = k
    ·subst e
     have : u = q := by rw [hq] at hu; omega
     subst this; exact hc
    ·exact hno j (by omega) u hu
  ·exfalso
   obtain ⟨q, ⟨j, hj, hjq⟩, hq⟩ := put_some g0 l0 hv hw
   rw [hrow] at hj hjq
   exact hno j (by omega) q hjq hq) (M.getD v []).length ((0 : Int), N0) ⟨0, N0, by omega, rfl, lm0, fun _ => rfl, fun j hj => absurd hj (Nat.not_lt_zero j)⟩
 exact ⟨q, h2, h1, h3⟩

structure MovesI (n : Nat) (O R : List Int) (M : List (List Int)) (i : Nat) (res : List Int) (N : List (List Int)) : Prop where
 game : Game n O R N
 live : Live n N
 len : res.length = n
 later : ∀ u, u < n → i ≤ u → N.getD u [] = M.getD u [] ∧ res.getD u 0 = -1
 won : ∀ u, u < n → u < i → wonG O R M u = ownG O u → ∃ q : Nat, edgeG M u q ∧ res.getD u 0 = (q : Int) ∧ N.getD u [] = [(q : Int)]
 lost : ∀ u, u < n → u < i → wonG O R M u ≠ ownG O u → N.getD u [] = M.getD u [] ∧ res.getD u 0 = -1
 same : ∀ u, u < n → wonG O R N u = wonG O R M u

theorem movesOk (g : Game n O R M) (live : Live n M) : ∃ res N, rounds (impl_MovesOfGame_B2 (O, R, M) (solV O R M)) ((0 : Int), List.replicate n (-1 : Int), M) = some res ∧ MovesI n O R M n res N := by
 have n2 := g.n2
 have lo := g.lo
 have lm := g.lm
 have ls := solV_len O R M
 obtain ⟨r, h1, N, h2⟩ := rounds_inv (f := impl_MovesOfGame_B2 (O, R, M) (solV O R M)) (fun m s => ∃ (i : Nat) (res : List Int) (N : List (List Int)), m + i = n ∧ s = ((i : Int), res, N) ∧ MovesI n O R M i res N)
  (fun r => ∃ N, MovesI n O R M n r N) (by
  rintro m s ⟨i, res, N, hm, rfl, hI⟩
  have lres := hI.len
  have lN := hI.game.lm
  by_cases hi : i < n
  ·have jo : (0 : Int) ≤ (i : Int) ∧ (i : Int) < lenI O := idxN (by omega)
   have js : (0 : Int) ≤ (i : Int) ∧ (i : Int) < lenI (solV O R M) := idxN (by omega)
   have jm : (0 : Int) ≤ (i : Int) ∧ (i : Int) < lenI M := idxN (by omega)
   have hd : decide ((i : Int) < lenI O) = true := by simp only [lenI]; exact ltN (by omega)
   have eo := own_int g hi
   have es := (sol_get g hi).1
   have hlat := hI.later i hi (Nat.le_refl _)
   unfold impl_MovesOfGame_B2
   simp only [hd, cond_true, Int.toNat_natCast, guard_pos jo, guard_pos js, guard_pos jm, eo, es, nextN hi (show n ≤ 4294967296 by omega)]
   by_cases hc : wonG O R M i = ownG O i
   ·have : ((wonG O R M i : Int) != (ownG O i : Int)) = false := by rw [hc]; simp
    simp only [this, cond_false]
    obtain ⟨q, q1, q2, q3⟩ := tryOk g hI.game hI.live hi hlat.1 (by rw [hI.same i hi]; exact hc) lres
    simp only [q2, Option.bind_some]
    have hqn := edge_lt g hi q1
    have hres : ∀ u, (res.set i (q : Int)).getD u 0 = if u = i then (q : Int) else res.getD u 0 := fun u => by
     by_cases e : u = i
     ·subst e; rw [if_pos rfl]; simp [List.getD_eq_getElem?_getD, lres, hi]
     ·rw [if_neg e, List.getD_eq_getElem?_getD, List.getElem?_set_ne (fun h => e h.symm), ← List.getD_eq_getElem?_getD]
    have hrow := fun u => row_put (N := N) (v := i) (by omega) [(q : Int)] u
    refine .inl ⟨m - 1, _, by omega, rfl, i + 1, _, _, by omega, rfl, ⟨game_put hI.game hi hqn, live_put hI.live lN hi, by simpa using lres, fun u hu hiu => ?_, fun u hu hui hwu => ?_, fun u hu hui hwu => ?_, fun u hu => ?_⟩⟩
    ·rw [hrow u, hres u, if_neg (by omega), if_neg (by omega)]
     exact hI.later u hu (by omega)
    ·by_cases e : u = i
     ·exact ⟨q, by rw [e]; exact q1, by rw [hres u, if_pos e], by rw [hrow u, if_pos e]⟩
     ·rw [hrow u, hres u, if_neg e, if_neg e]
      exact hI.won u hu (by omega) hwu
    ·by_cases e : u = i
     ·subst e; exact absurd hc hwu
     ·rw [hrow u, hres u, if_neg e, if_neg e]
      exact hI.lost u hu (by omega) hwu
    ·rw [put_won hI.game hI.live hi (by
      obtain ⟨k, hk, hkq⟩ := q1
      exact ⟨k, by rw [hlat.1]; exact hk, by rw [hlat.1]; exact hkq⟩) q3 hu]
     exact hI.same u hu
   ·have : ((wonG O R M i : Int) != (ownG O i : Int)) = true := by simp only [bne_iff_ne, ne_eq]; omega
    simp only [this, cond_true, Option.bind_some]
    refine .inl ⟨m - 1, _, by omega, rfl, i + 1, res, N, by omega, rfl, ⟨hI.game, hI.live, lres, fun u hu hiu => hI.later u hu (by omega), fun u hu hui hwu => ?_, fun u hu hui hwu => ?_, hI.same⟩⟩
    ·by_cases e : u = i
     ·subst e; exact absurd hwu hc
     ·exact hI.won u hu (by omega) hwu
    ·by_cases e : u = i
     ·subst e; exact hlat
     ·exact hI.lost u hu (by omega) hwu
  ·have hin : i = n := by omega
   subst hin
   have hd : decide ((i : Int) < lenI O) = false := by simp only [lenI]; exact geN (by omega)
   unfold impl_MovesOfGame_B2
   simp only [hd, cond_false]
   exact .inr ⟨_, rfl, N, hI⟩) n ((0 : Int), List.replicate n (-1 : Int), M) ⟨0, _, _, by omega, rfl, ⟨g, live, by simp, fun u hu _ => ⟨rfl, by simp [List.getD_eq_getElem?_getD, List.getElem?_replicate, hu]⟩, fun u _ h => absurd h (Nat.not_lt_zero u), fun u _ h => absurd h (Nat.not_lt_zero u), fun _ _ => rfl⟩⟩
 exact ⟨r, N, h1, h2⟩

end
end Go.Proofs


/-
 What the law says of games.
-/
namespace Go.Proofs
open Go.Ide Go.IntWalk

theorem sameI (xs : List Int) (h : xs.length ≤ 1048576) : slices_Equal___int64_int64 xs xs = some true := by
 have := rounds_all (f := slices_Equal___int64_int64_B1 xs xs) (fun i => ((i : Nat) : Int)) (fun _ => true) (Sum.inl ()) (Sum.inr ()) (n := xs.length) (fun i hi => by
  unfold slices_Equal___int64_int64_B1
  simp only [lenI, ltN hi, cond_true, Int.toNat_natCast, nextN hi (show xs.length ≤ 4294967296 by omega), guard_pos (idxN hi), bne_self_eq_false, cond_false]) (by
  unfold slices_Equal___int64_int64_B1
  simp only [lenI, geN (Nat.le_refl _), cond_false]) xs.length 0 (by omega)
 rw [show allN (fun _ => true) xs.length 0 = true from allN_iff.2 fun _ _ _ => rfl] at this
 simp only [Int.natCast_zero] at this
 unfold slices_Equal___int64_int64
 simp only [bne_self_eq_false, cond_false, this]
 rfl

theorem intsG (xs : List Int) (h : xs.length ≤ 1048576) : laws_b10Ints xs xs = some true := by
 rw [show laws_b10Ints xs xs = slices_Equal___int64_int64 xs xs from rfl, sameI xs h]

section
variable {n : Nat} {O R W mv : List Int} {M : List (List Int)}

theorem isWinLoop (g : Game n O R M) (lw : W.length = n) (lv : mv.length = n) : rounds (impl_IsWinning_B2 (O, R, M) W mv) ((0 : Int), M) = some (bif allN (fun i => okM O W mv M i && succB W (nowAt O W mv M i) i) n 0 then .inl (nowL n O W mv M n) else .inr ()) := by
 have n2 := g.n2
 have lo := g.lo
 have lr := g.lr
 have lm := g.lm
 have hz := nowL_zero (n := n) (O := O) (W := W) (mv := mv) (M := M) lm
 have h4 := rounds_all (f := impl_IsWinning_B2 (O, R, M) W mv) (fun i => (((i : Nat) : Int), nowL n O W mv M i)) (fun i => okM O W mv M i && succB W (nowAt O W mv M i) i) (Sum.inl (nowL n O W mv M n)) (Sum.inr ()) (n := n) (fun i hi => by
  have hl := g.ml i hi
  have hok0 := nowAt_in (W := W) (mv := mv) g hi
  have hs := nowL_succ (n := n) (O := O) (W := W) (mv := mv) (M := M) hi
  have hg := nowL_get (n := n) (O := O) (W := W) (mv := mv) (M := M) (k := i + 1) hi
  rw [decide_eq_true (by omega), cond_true] at hg
  have inner : okM O W mv M i = true → rounds (impl_IsWinning_B1 W (((i : Nat) : Int), nowL n O W mv M i) (nowL n O W mv M (i + 1))) (0 : Int) = some (bif succB W (nowAt O W mv M i) i then .inl () else .inr ()) := fun hok => by
   obtain ⟨a1, a2⟩ := hok0 hok
   refine succLoop lw hi a1 a2 (fun k hk => ?_) ?_
   ·unfold impl_IsWinning_B1
    simp only [Int.toNat_natCast, hg]
    simp only [lenI, ltN hk, cond_true, nextN hk (show (nowAt O W mv M i).length ≤ 4294967296 by omega)]
    rw [guard_pos (idxN hk)]
   ·unfold impl_IsWinning_B1
    simp only [Int.toNat_natCast, hg]
    simp only [lenI, geN (Nat.le_refl _), cond_false]
  rw [hs] at inner
  unfold impl_IsWinning_B2
  rw [hs]
  unfold okM at inner ⊢
  simp only [lenI, lw, lo, lm, lv, nowL_len, ltN hi, cond_true, Int.toNat_natCast, nextN hi (show n ≤ 4294967296 by omega), guard_pos (idxN hi), Option.bind_some, implHas hl, bne]
  cases hc : (O.getD i 0 == W.getD i 0) with
  | true =>
   rw [hc] at inner
   simp only [cond_true] at inner ⊢
   cases hh : hasB (M.getD i []) (mv.getD i 0) with
   | false => rfl
   | true =>
    have inner := inner hh
    simp only [Bool.not_true, cond_false, Bool.true_and, Option.bind_some, List.length_set, nowL_len, guard_pos (idxN hi), inner]
    cases succB W (nowAt O W mv M i) i <;> rfl
  | false =>
   rw [hc] at inner
   simp only [cond_false] at inner ⊢
   cases hh : (mv.getD i 0 == -1) with
   | false => rfl
   | true =>
    have inner := inner hh
    simp only [Bool.not_true, cond_false, Bool.true_and, Option.bind_some, nowL_len, guard_pos (idxN hi), inner]
    cases succB W (nowAt O W mv M i) i <;> rfl) (by
  unfold impl_IsWinning_B2
  simp only [lenI, lo, geN (Nat.le_refl _), cond_false]) n 0 (by omega)
 simp only [Int.natCast_zero, hz] at h4
 exact h4

theorem hasB_iff {xs : List Int} {a : Int} : hasB xs a = true ↔ ∃ k, k < xs.length ∧ xs.getD k 0 = a := by
 unfold hasB
 rw [Bool.not_eq_true']
 constructor
 ·intro h
  refine Classical.byContradiction fun hn => ?_
  have : allN (fun i => !(xs.getD i 0 == a)) xs.length 0 = true := allN_iff.2 fun i _ hi => by
   simp only [Bool.not_eq_true', beq_eq_false_iff_ne, ne_eq]
   exact fun e => hn ⟨i, by omega, e⟩
  rw [h] at this; cases this
 ·rintro ⟨k, hk, e⟩
  cases h : allN (fun i => !(xs.getD i 0 == a)) xs.length 0 with
  | false => rfl
  | true =>
   have := allN_iff.1 h k (by omega) (by omega)
   rw [e] at this
   simp at this

theorem sol_ext (g : Game n O R M) {N : List (List Int)} (g' : Game n O R N) (h : ∀ u, u < n → wonG O R N u = wonG O R M u) : solV O R N = solV O R M := by
 have lo := g.lo
 refine List.ext_getElem (by rw [solV_len, solV_len]) fun i p q => ?_
 rw [solV_len] at p
 have e1 := (sol_get g' (v := i) (by omega)).1
 have e2 := (sol_get g (v := i) (by omega)).1
 rw [h i (by omega), ← e2] at e1
 rw [List.getD_eq_getElem?_getD, List.getD_eq_getElem?_getD, List.getElem?_eq_getElem (by rw [solV_len]; omega), List.getElem?_eq_getElem (by rw [solV_len]; omega)] at e1
 exact e1

theorem isWin_true (hM : ∀ y ∈ M, y.length ≤ 1048576) (hg : okG O R M = true) (g : Game n O R M) {res : List Int} {N : List (List Int)} (hI : MovesI n O R M n res N) : impl_IsWinning (O, R, M) (solV O R M) res = some true := by
 have n2 := g.n2
 have lo := g.lo
 have lr := g.lr
 have lm := g.lm
 have lres := hI.len
 have ls := solV_len O R M
 have hloop := isWinLoop g (W := solV O R M) (mv := res) (by omega) lres
 have hoe : ∀ i, i < n → (O.getD i 0 == (solV O R M).getD i 0) = decide (wonG O R M i = ownG O i) := fun i hi => by
  rw [own_int g hi, (sol_get g hi).1, Bool.eq_iff_iff, beq_iff_eq, decide_eq_true_eq]; omega
 have hnow : ∀ i, i < n → nowAt O (solV O R M) res M i = N.getD i [] := fun i hi => by
  unfold nowAt
  rw [hoe i hi]
  by_cases hc : wonG O R M i = ownG O i
  ·obtain ⟨q, _, q2, q3⟩ := hI.won i hi hi hc
   rw [decide_eq_true hc, cond_true, q2, q3]
  ·rw [decide_eq_false hc, cond_false, (hI.lost i hi hi hc).1]
 have hN : nowL n O (solV O R M) res M n = N := row_ext (by rw [nowL_len, hI.game.lm]) fun i hi => by
  rw [nowL_len] at hi
  rw [nowL_get hi, decide_eq_true hi, cond_true, hnow i hi]
 have hall : allN (fun i => okM O (solV O R M) res M i && succB (solV O R M) (nowAt O (solV O R M) res M i) i) n 0 = true := allN_iff.2 fun i _ hi => by
  have hi : i < n := by omega
  rw [Bool.and_eq_true]
  constructor
  ·unfold okM
   rw [hoe i hi]
   by_cases hc : wonG O R M i = ownG O i
   ·obtain ⟨q, ⟨k, hk, hkq⟩, q2, q3⟩ := hI.won i hi hi hc
    rw [decide_eq_true hc, cond_true, q2]
    exact hasB_iff.2 ⟨k, hk, hkq⟩
   ·rw [decide_eq_false hc, cond_false, (hI.lost i hi hi hc).2]; rfl
  ·unfold succB
   refine allN_iff.2 fun k _ hk => ?_
   rw [hnow i hi] at hk ⊢
   have hk : k < (N.getD i []).length := by omega
   obtain ⟨q, hq, hqn⟩ := hI.game.mv i hi k hk
   have hed : edgeG N i q := ⟨k, hk, hq⟩
   have hw := (sol_get hI.game hi).2
   obtain ⟨s, hs⟩ := sol_wins hI.game hI.live (wonG O R N i) hw
   have hwq : wonG O R N q = wonG O R N i := by
    by_cases ho : ownG O i = wonG O R N i
    ·obtain ⟨h1, h2⟩ := hs.mine i ⟨hi, rfl⟩ ho
     obtain ⟨q', _, _, q3⟩ := hI.won i hi hi (by rw [← hI.same i hi, ← ho])
     obtain ⟨j, hj, hjs⟩ := h1
     rw [q3] at hj hjs hk hq
     have hj0 : j = 0 := by simpa using hj
     have hk0 : k = 0 := by simpa using hk
     subst hj0 hk0
     have : s i = q := by rw [hq] at hjs; omega
     rw [← this]; exact h2.2
    ·exact (hs.their i ⟨hi, rfl⟩ ho q hed hqn).2
   rw [hq, Int.toNat_natCast, (sol_get g hqn).1, (sol_get g hi).1, ← hI.same q hqn, ← hI.same i hi, hwq]
   simp
 rw [hall, cond_true, hN] at hloop
 have hin : allIn (solV O R M) 0 1 = true := allIn_iff.2 fun i hi => by
  have := sol_get g (v := i) (by omega)
  omega
 have e1 : (lenI (solV O R M) != lenI O) = false := by simp only [lenI, ls, bne_self_eq_false]
 have e2 : (lenI res != lenI O) = false := by simp only [lenI, lres, lo, bne_self_eq_false]
 unfold impl_IsWinning
 simp only [implGame (show M.length ≤ 1048576 by omega) hM (show O.length ≤ 1048576 by omega) (show R.length ≤ 1048576 by omega), hg, e1, e2, areWithin64 (xs := solV O R M) (show (solV O R M).length ≤ 4294967296 by omega), hin, Option.bind_some, Bool.not_true, cond_false, clone_ok (xs := M) (by omega), hloop, implWinners hI.game, sol_ext g hI.game hI.same, sameI (solV O R M) (by omega)]

theorem isWin_false (hM : ∀ y ∈ M, y.length ≤ 1048576) (hg : okG O R M = true) (g : Game n O R M) {res W' : List Int} {N : List (List Int)} (hI : MovesI n O R M n res N) (lw : W'.length = n) (hw : ∀ i, i < n → W'.getD i 0 = 1 - (solV O R M).getD i 0) : impl_IsWinning (O, R, M) W' res = some false := by
 have n1 := g.n1
 have n2 := g.n2
 have lo := g.lo
 have lr := g.lr
 have lm := g.lm
 have lres := hI.len
 have hloop := isWinLoop g (W := W') (mv := res) lw lres
 have h0 : okM O W' res M 0 = false := by
  unfold okM
  have ho := own_01 O 0
  have hs := (sol_get g (v := 0) (by omega)).2
  have e : (O.getD 0 0 == W'.getD 0 0) = decide (wonG O R M 0 ≠ ownG O 0) := by
   rw [hw 0 (by omega), own_int g (by omega), (sol_get g (v := 0) (by omega)).1, Bool.eq_iff_iff, beq_iff_eq, decide_eq_true_eq]; omega
  rw [e]
  by_cases hc : wonG O R M 0 = ownG O 0
  ·obtain ⟨q, _, q2, _⟩ := hI.won 0 (by omega) (by omega) hc
   rw [decide_eq_false (fun h => h hc), cond_false, q2]
   simp only [beq_eq_false_iff_ne, ne_eq]; omega
  ·rw [decide_eq_true hc, cond_true, (hI.lost 0 (by omega) (by omega) hc).2]
   cases hh : hasB (M.getD 0 []) (-1) with
   | false => rfl
   | true =>
    obtain ⟨k, hk, hkq⟩ := hasB_iff.1 hh
    obtain ⟨q, hq, _⟩ := g.mv 0 (by omega) k hk
    omega
 have hall : allN (fun i => okM O W' res M i && succB W' (nowAt O W' res M i) i) n 0 = false := by
  cases h : allN (fun i => okM O W' res M i && succB W' (nowAt O W' res M i) i) n 0 with
  | false => rfl
  | true =>
   have := allN_iff.1 h 0 (by omega) (by omega)
   rw [Bool.and_eq_true, h0] at this
   cases this.1
 rw [hall, cond_false] at hloop
 have hin : allIn W' 0 1 = true := allIn_iff.2 fun i hi => by
  have := sol_get g (v := i) (by omega)
  rw [hw i (by omega)]
  omega
 have e1 : (lenI W' != lenI O) = false := by simp only [lenI, lw, lo, bne_self_eq_false]
 have e2 : (lenI res != lenI O) = false := by simp only [lenI, lres, lo, bne_self_eq_false]
 unfold impl_IsWinning
 simp only [implGame (show M.length ≤ 1048576 by omega) hM (show O.length ≤ 1048576 by omega) (show R.length ≤ 1048576 by omega), hg, e1, e2, areWithin64 (xs := W') (show W'.length ≤ 4294967296 by omega), hin, Option.bind_some, Bool.not_true, cond_false, clone_ok (xs := M) (by omega), hloop]

end

theorem live_of {O R : List Int} {M : List (List Int)} (h : okG O R M = true) : Live O.length M := fun v hv => by
 unfold okG at h
 simp only [Bool.and_eq_true, beq_iff_eq, lenI] at h
 obtain ⟨_, _, h4, _, _, h7⟩ := h
 have := allN_iff.1 h7 v (by omega) (by omega)
 unfold okMv at this
 simp only [Bool.and_eq_true, Bool.not_eq_true', decide_eq_false_iff_not, lenI] at this
 omega

theorem implTurn {O R : List Int} {M : List (List Int)} (hM : ∀ y ∈ M, y.length ≤ 1048576) (hg : okG O R M = true) (h8 : hasB R 8 = false) : impl_TurnGame (O, R, M) = some ((turnO O, turnR R, M), true) := by
 have g := game_of hM hg
 have n1 := g.n1
 have n2 := g.n2
 have lr := g.lr
 have lm := g.lm
 have hgO : ∀ i, i < O.length → wsub .i64 (1 : Int) (O.getD i 0) = 1 - O.getD i 0 := fun i hi => by
  have := g.ow i hi
  exact wsubI (by omega)
 have hgR : ∀ i, i < R.length → wadd .i64 (R.getD i 0) (1 : Int) = R.getD i 0 + 1 := fun i hi => by
  obtain ⟨r, e, h⟩ := g.rk i (by omega)
  rw [e]
  exact waddI (by omega)
 have him := rounds_forS (f := impl_TurnGame_B1 (O, R, M)) (fun i (s : List Int × List Int × List (List Int)) => (((i : Nat) : Int), s.1, s.2.1, s.2.2)) (fun i s => (s.1 ++ [1 - O.getD i 0], s.2.1 ++ [R.getD i 0 + 1], s.2.2 ++ [M.getD i []])) id (n := O.length)
  (fun i s => s = ((O.take i).map (fun x => 1 - x), (R.take i).map (fun x => x + 1), M.take i))
  (fun i s hi hs => ⟨by
   subst hs
   have hc : slices_Clone (List.getD M i []) = some (List.getD M i []) := clone_ok (hM _ (mem_getD (by omega) []))
   have a1 : ∀ {α β : Type} (f : α → β) (xs : List α) (z : β), (List.map f (List.take i xs)).length + [z].length ≤ appMax := fun f xs z => by simp [appMax]; omega
   have a2 : (List.take i M).length + [List.getD M i ([] : List Int)].length ≤ appMax := by simp [appMax]; omega
   unfold impl_TurnGame_B1
   simp only [lenI, ltN hi, cond_true, Int.toNat_natCast, nextN hi (show O.length ≤ 4294967296 by omega), hgO i hi, hgR i (show i < R.length by omega), hc, Option.bind_some]
   rw [guard_pos (idxN hi), guard_pos (a1 _ _ _), guard_pos (idxN (show i < R.length by omega)), guard_pos (a1 _ _ _), guard_pos (idxN (show i < M.length by omega)), guard_pos a2], by
   subst hs
   simp only
   rw [take_snoc hi 0, take_snoc (show i < R.length by omega) 0, take_snoc (show i < M.length by omega) []]
   simp⟩)
  (fun s hs => by
   subst hs
   unfold impl_TurnGame_B1
   simp only [lenI, geN (Nat.le_refl _), cond_false]
   rfl) O.length 0 ([], [], []) (by omega) (by simp)
 have him2 : rounds (impl_TurnGame_B1 (O, R, M)) ((0 : Int), ([] : List Int), ([] : List Int), ([] : List (List Int))) = some (turnO O, turnR R, M) := by
  have h1 := him.1
  rw [him.2] at h1
  rw [show ((0 : Int), ([] : List Int), ([] : List Int), ([] : List (List Int))) = (((0 : Nat) : Int), ([] : List Int), ([] : List Int), ([] : List (List Int))) from rfl, h1]
  simp only [id, turnO, turnR]
  rw [List.take_of_length_le (Nat.le_refl _), List.take_of_length_le (show R.length ≤ O.length by omega), List.take_of_length_le (show M.length ≤ O.length by omega)]
 unfold impl_TurnGame
 simp only [implGame (show M.length ≤ 1048576 by omega) hM (show O.length ≤ 1048576 by omega) (show R.length ≤ 1048576 by omega), hg, implHas (xs := R) (a := 8) (by omega), h8, Option.bind_some, Bool.not_true, cond_false, him2]

def Rise (b : Nat) (xs : List Int) : Prop := xs.length ≤ b ∧ ∀ i, i < xs.length → 0 ≤ xs.getD i 0 ∧ xs.getD i 0 < (b : Int) ∧ (0 < i → xs.getD (i - 1) 0 < xs.getD i 0)

theorem getD_app2 {xs ys : List Int} {i : Nat} : (xs ++ ys).getD i 0 = if i < xs.length then xs.getD i 0 else ys.getD (i - xs.length) 0 := by
 split
 ·rename_i h; rw [List.getD_eq_getElem?_getD, List.getElem?_append_left h, List.getD_eq_getElem?_getD]
 ·rename_i h; rw [List.getD_eq_getElem?_getD, List.getElem?_append_right (by omega), List.getD_eq_getElem?_getD]

theorem Rise.snoc {b : Nat} {xs : List Int} (h : Rise b xs) : Rise (b + 1) (xs ++ [(b : Int)]) := by
 refine ⟨by have := h.1; simp; omega, fun i hi => ?_⟩
 rw [List.length_append, List.length_singleton] at hi
 rw [getD_app2]
 by_cases e : i < xs.length
 ·rw [if_pos e]
  obtain ⟨h1, h2, h3⟩ := h.2 i e
  refine ⟨h1, by omega, fun h0 => ?_⟩
  rw [getD_app2, if_pos (by omega)]; exact h3 h0
 ·have hx : i = xs.length := by omega
  subst hx
  rw [if_neg e, Nat.sub_self, List.getD_cons_zero]
  refine ⟨by omega, by omega, fun h0 => ?_⟩
  rw [getD_app2, if_pos (by omega)]
  exact (h.2 _ (by omega)).2.1

theorem Rise.mono {b c : Nat} {xs : List Int} (h : Rise b xs) (hbc : b ≤ c) : Rise c xs := ⟨by have := h.1; omega, fun i hi => by
 obtain ⟨h1, h2, h3⟩ := h.2 i hi
 exact ⟨h1, by omega, h3⟩⟩

theorem Rise.ok {b : Nat} {xs : List Int} (h : Rise b xs) (h1 : 1 ≤ xs.length) (hb : b ≤ 100) : okMv xs (b : Int) = true := by
 unfold okMv
 rw [Bool.and_eq_true]
 refine ⟨by simp only [Bool.not_eq_true', decide_eq_false_iff_not, lenI]; omega, allN_iff.2 fun i _ hi => ?_⟩
 obtain ⟨q1, q2, q3⟩ := h.2 i (by omega)
 have hl := h.1
 unfold riseB
 rw [wsubI (by omega)]
 simp only [Bool.and_eq_true, decide_eq_true_eq, Bool.not_eq_true', Bool.and_eq_false_iff, decide_eq_false_iff_not]
 refine ⟨⟨q1, by omega⟩, ?_⟩
 by_cases e : i = 0
 ·exact .inl (by omega)
 ·exact .inr (by have := q3 (by omega); omega)

theorem drawRowG {n a : Nat} {y1 : Int × SrcD} (hy : wadd .i64 (1 : Int) y1.1 = (n : Int)) (hn : n ≤ 16) {s : SrcD} (hs : SrcOK (n * 2 + a) s) :
  ∃ s' xs, rounds (spec_l07DrawGameOk_B1 y1) ((0 : Int), s, ([] : List Int)) = some (s', xs) ∧ SrcOK a s' ∧ Rise n xs := by
 obtain ⟨r, h1, h2, h3⟩ := rounds_inv (f := spec_l07DrawGameOk_B1 y1) (fun m st => ∃ (i : Nat) (s : SrcD) (xs : List Int), m + i = n ∧ st = ((i : Int), s, xs) ∧ SrcOK (m * 2 + a) s ∧ Rise i xs) (fun r => SrcOK a r.1 ∧ Rise n r.2) (by
  rintro m st ⟨i, s, xs, hm, rfl, hs2, hx⟩
  unfold spec_l07DrawGameOk_B1 spec_l00Src_one
  rw [hy]
  by_cases hi : i < n
  ·obtain ⟨x, s', e, _, _, o⟩ := pick_ok (n := (m - 1) * 2 + a) (hs2.mono (by omega)) (3 : Int)
   have hl := hx.1
   simp only [ltN hi, cond_true, e, Option.bind_some, nextN hi (show n ≤ 4294967296 by omega)]
   cases (x == 0) with
   | true =>
    simp only [cond_true]
    rw [guard_pos (by simp only [List.length_singleton, appMax]; omega)]
    exact .inl ⟨m - 1, _, by omega, rfl, i + 1, s', _, by omega, rfl, o, hx.snoc⟩
   | false =>
    simp only [cond_false, Option.bind_some]
    exact .inl ⟨m - 1, _, by omega, rfl, i + 1, s', xs, by omega, rfl, o, hx.mono (by omega)⟩
  ·have : i = n := by omega
   subst this
   simp only [geN (Nat.le_refl _), cond_false]
   exact .inr ⟨_, rfl, hs2.mono (by omega), hx⟩) n ((0 : Int), s, ([] : List Int)) ⟨0, s, [], by omega, rfl, hs, by simp, fun i hi => by simp at hi⟩
 exact ⟨r.1, r.2, h1, h2, h3⟩

theorem drawGame {c : List Int} (hc : BytesI c) : ∃ O R M, spec_B10Game c = some (O, R, M) ∧ okG O R M = true ∧ hasB R 8 = false ∧ (∀ y ∈ M, y.length ≤ 16) := by
 obtain ⟨ef, of⟩ := SrcOK.from hc
 obtain ⟨x, s1, e1, x1, x2, o1⟩ := pick_ok (n := 10000) (of.mono (by omega)) (7 : Int)
 obtain ⟨n, hn, n1, n2⟩ : ∃ n : Nat, wadd .i64 (1 : Int) x = (n : Int) ∧ 1 ≤ n ∧ n ≤ 7 := ⟨(1 + x).toNat, by rw [waddI (by omega)]; omega, by omega, by omega⟩
 obtain ⟨r, h1, h2⟩ := rounds_inv (f := spec_l07DrawGameOk_B2 (x, s1)) (fun m st => ∃ (i : Nat) (s : SrcD) (O R : List Int) (M : List (List Int)), m + i = n ∧ st = ((i : Int), s, O, R, M) ∧ SrcOK (m * 100) s ∧ O.length = i ∧ R.length = i ∧ M.length = i ∧ allIn O 0 1 = true ∧ allIn R 0 5 = true ∧ ∀ y ∈ M, Rise n y ∧ 1 ≤ y.length)
  (fun r => r.2.1.length = n ∧ r.2.2.1.length = n ∧ r.2.2.2.length = n ∧ allIn r.2.1 0 1 = true ∧ allIn r.2.2.1 0 5 = true ∧ ∀ y ∈ r.2.2.2, Rise n y ∧ 1 ≤ y.length) (by
  rintro m st ⟨i, s, O, R, M, hm, rfl, hs, lo, lr, lm, hO, hR, hM⟩
  unfold spec_l07DrawGameOk_B2
  simp only [hn]
  by_cases hi : i < n
  ·obtain ⟨y, s2, e2, y1, y2, o2⟩ := pick_ok (n := (m - 1) * 100 + 90) (hs.mono (by omega)) (2 : Int)
   obtain ⟨z, s3, e3, z1, z2, o3⟩ := pick_ok (n := (m - 1) * 100 + 80) (o2.mono (by omega)) (6 : Int)
   obtain ⟨s4, row, e4, o4, hrow⟩ := drawRowG (y1 := (x, s1)) hn (by omega) (a := (m - 1) * 100 + 10) (o3.mono (by omega))
   have hlr := hrow.1
   have hv : ∃ s5 row', (show Option (SrcD × List Int) from
     bif ((lenI row) == (0 : Int)) then
      (spec_l00Src_pick s4 (n : Int)).bind fun y24 =>
      guardP (List.length row + List.length ([y24.1] : List Int) ≤ appMax) (
       some (y24.2, (row ++ ([y24.1] : List Int))))
     else
      some (s4, row)) = some (s5, row') ∧ SrcOK ((m - 1) * 100) s5 ∧ Rise n row' ∧ 1 ≤ row'.length := by
    cases hz : (lenI row == (0 : Int)) with
    | true =>
     have hz : row = [] := by
      have := eq_of_beq hz
      simp only [lenI] at this
      exact List.length_eq_zero_iff.1 (by omega)
     subst hz
     obtain ⟨u, s5, e5, u1, u2, o5⟩ := pick_ok (n := (m - 1) * 100) (o4.mono (by omega)) (n : Int)
     simp only [cond_true, e5, Option.bind_some]
     rw [guard_pos (by simp [appMax])]
     refine ⟨s5, [u], rfl, o5, ⟨by simp; omega, fun j hj => ?_⟩, by simp⟩
     have : j = 0 := by simpa using hj
     subst this
     exact ⟨u1, by show u < _; omega, fun h => absurd h (Nat.lt_irrefl 0)⟩
    | false =>
     refine ⟨s4, row, rfl, o4.mono (by omega), hrow, ?_⟩
     simp only [beq_eq_false_iff_ne, ne_eq, lenI] at hz
     omega
   obtain ⟨s5, row', e5, o5, hr5, hl5⟩ := hv
   have hsn : ∀ {xs : List Int} {x b c : Int}, allIn xs b c = true → b ≤ x → x ≤ c → allIn (xs ++ [x]) b c = true := fun h h1 h2 => by
    unfold allIn at h ⊢
    rw [List.all_append, h]
    simp; omega
   simp only [ltN hi, cond_true, e2, e3, e4, Option.bind_some, nextN hi (show n ≤ 4294967296 by omega)]
   rw [guard_pos (by simp only [List.length_singleton, appMax]; omega), guard_pos (by simp only [List.length_singleton, appMax]; omega)]
   simp only at e5
   rw [e5]
   simp only [Option.bind_some]
   rw [guard_pos (by simp only [List.length_singleton, appMax]; omega)]
   refine .inl ⟨m - 1, _, by omega, rfl, i + 1, s5, _, _, _, by omega, rfl, o5, by simp; omega, by simp; omega, by simp; omega, hsn hO y1 (by omega), hsn hR z1 (by omega), fun w hw => ?_⟩
   rcases List.mem_append.1 hw with h | h
   ·exact hM w h
   ·simp only [List.mem_singleton] at h
    subst h; exact ⟨hr5, hl5⟩
  ·have : i = n := by omega
   simp only [geN (show n ≤ i by omega), cond_false]
   exact .inr ⟨_, rfl, by simp only; omega, by simp only; omega, by simp only; omega, hO, hR, hM⟩) n ((0 : Int), s1, [], [], []) ⟨0, s1, [], [], [], by omega, rfl, o1.mono (by omega), rfl, rfl, rfl, rfl, rfl, by simp⟩
 obtain ⟨s, O, R, M⟩ := r
 obtain ⟨lo, lr, lm, hO, hR, hM⟩ := h2
 simp only at lo lr lm hO hR hM
 have hR' := allIn_iff.1 hR
 refine ⟨O, R, M, ?_, ?_, ?_, fun y hy => by have := (hM y hy).1.1; omega⟩
 ·unfold spec_B10Game spec_l07DrawGameOk
  simp only [ef, e1, h1, Option.bind_some]
 ·unfold okG
  simp only [Bool.and_eq_true, decide_eq_true_eq, beq_iff_eq, lenI]
  refine ⟨⟨by omega, by omega⟩, by omega, by omega, hO, allIn_iff.2 fun i hi => by have := hR' i hi; omega, allN_iff.2 fun i _ hi => ?_⟩
  have := hM _ (mem_getD (show i < M.length by omega) [])
  rw [lo]
  exact this.1.ok this.2 (by omega)
 ·cases h : hasB R 8 with
  | false => rfl
  | true =>
   obtain ⟨k, hk, e⟩ := hasB_iff.1 h
   have := hR' k hk
   omega

theorem indexSome {l : List Bool} (h : l.length ≤ 16) {q : Nat} (hq : q < l.length) (hl : l.getD q false = true) {r : List Int} (hr : rounds (impl_indicesOf_B1 l) ((0 : Int), ([] : List Int)) = some r) : 1 ≤ r.length := by
 obtain ⟨r', h1, h2⟩ := rounds_inv (f := impl_indicesOf_B1 l) (fun m s => ∃ (k : Nat) (out : List Int), m + k = l.length ∧ s = ((k : Int), out) ∧ out.length ≤ k ∧ (q < k → 1 ≤ out.length)) (fun r => 1 ≤ r.length) (by
  rintro m s ⟨k, out, hm, rfl, ho, hk1⟩
  by_cases hk : k < l.length
  ·unfold impl_indicesOf_B1
   simp only [lenI, ltN hk, cond_true, Int.toNat_natCast, nextN hk (show l.length ≤ 4294967296 by omega)]
   rw [guard_pos (idxN hk)]
   cases hb : l.getD k false with
   | true =>
    simp only [cond_true]
    rw [guard_pos (by simp only [List.length_singleton, appMax]; omega)]
    exact .inl ⟨m - 1, _, by omega, rfl, k + 1, _, by omega, rfl, by simp; omega, fun _ => by simp⟩
   | false =>
    refine .inl ⟨m - 1, _, by omega, rfl, k + 1, _, by omega, rfl, by omega, fun h => ?_⟩
    by_cases e : q = k
    ·subst e; rw [hl] at hb; cases hb
    ·exact hk1 (by omega)
  ·unfold impl_indicesOf_B1
   simp only [lenI, geN (show l.length ≤ k by omega), cond_false]
   exact .inr ⟨_, rfl, hk1 (by omega)⟩) l.length ((0 : Int), []) ⟨0, [], by omega, rfl, by simp, fun h => absurd h (Nat.not_lt_zero q)⟩
 rw [hr] at h1
 injection h1 with h1
 rw [h1]; exact h2

theorem reachOne {O R : List Int} {M : List (List Int)} (hM : ∀ y ∈ M, y.length ≤ 1048576) (hg : okG O R M = true) {q : Nat} (hq : q < O.length) {p : Int} (hp : 0 ≤ p ∧ p ≤ 1) :
  ∃ r, spec_ReachOf (O, R, M) [(q : Int)] p = some (r, true) ∧ impl_ReachOf (O, R, M) [(q : Int)] p = some (r, true) ∧ 1 ≤ r.length ∧ r.length ≤ 16 := by
 have g := game_of hM hg
 have n1 := g.n1
 have n2 := g.n2
 have lr0 := g.lr
 have lm0 := g.lm
 have hall := Bs.all n2 n1
 have lrep : (List.replicate O.length true).length = O.length := by simp
 have hb3 := loop_to (f := spec_ReachOf_B3 (O, R, M)) (List.replicate O.length true) false (fun i out hi ho => by
  rw [lrep] at hi ho
  have e : (List.replicate O.length true).getD i false = true := by simp [List.getD_eq_getElem?_getD, List.getElem?_replicate, hi]
  unfold spec_ReachOf_B3
  simp only [Int.toNat_natCast, lenI, List.length_replicate, ltN hi, cond_true, e, nextN hi (show O.length ≤ 4294967296 by omega)]
  rw [guard_pos (idxN (by omega))]) (fun out ho => by
  rw [lrep]
  unfold spec_ReachOf_B3
  simp only [Int.toNat_natCast, lenI, List.length_replicate, geN (Nat.le_refl _), cond_false])
 rw [lrep] at hb3
 have ja : (0 : Int) ≤ lenI O := by simp only [lenI]; omega
 have jb : (0 : Int) ≤ lenI O ∧ lenI O ≤ 4294967296 := by simp only [lenI]; omega
 have e0 : Int.toNat (lenI O) = O.length := by simp [lenI]
 have hpp : (decide (p ≥ 0) && decide (p ≤ 1)) = true := by simp; omega
 have hs : allN (riseB [(q : Int)] (lenI O)) [(q : Int)].length 0 = true := allN_iff.2 fun i _ hi => by
  have : i = 0 := by simp at hi; omega
  subst this
  unfold riseB
  simp only [lenI]
  rw [wsubI (by omega)]
  simp
  omega
 obtain ⟨goal, x, h1, h2, h3, h4⟩ := goalTrue n1 n2 (show [(q : Int)].length ≤ 1048576 by simp) lrep hs
 have hgoal : goal.getD q false = true := by
  have hst := goalStep (set := [(q : Int)]) (ins := List.replicate O.length true) (goal := List.replicate O.length false) (k := 0) n1 n2 (by simp) lrep (by simp) (by simp)
  have hr0 : riseB [(q : Int)] (O.length : Int) 0 = true := allN_iff.1 hs 0 (by omega) (by simp)
  rw [hr0] at hst
  rw [rounds_eq] at h1
  rw [show ((0 : Int), List.replicate O.length false) = (((0 : Nat) : Int), List.replicate O.length false) from rfl, hst] at h1
  simp only [cond_true] at h1
  rw [rounds_eq] at h1
  have he : spec_ReachOf_B2 [(q : Int)] (List.replicate O.length true) (((0 + 1 : Nat) : Int), (List.replicate O.length false).set ([(q : Int)].getD 0 0).toNat true) = some (.inr (.inl ((List.replicate O.length false).set ([(q : Int)].getD 0 0).toNat true))) := by
   unfold spec_ReachOf_B2
   have : decide (((0 + 1 : Nat) : Int) < lenI [(q : Int)]) = false := by simp [lenI]
   simp only [this, cond_false]
  rw [he] at h1
  injection h1 with h1
  injection h1 with h1
  rw [← h1]
  simp [List.getD_eq_getElem?_getD, hq]
 obtain ⟨out, y, h5, h6, h7, h8, h8b, _⟩ := drawSame g hall h3 lrep h4 p
 obtain ⟨r, h9, h10⟩ := indexLoop (l := out) (by omega)
 have h11 : impl_bitsOf y (lenI O) = some out := by
  have := implBits h7
  rw [h8] at this
  exact this
 have h12 : rounds (spec_ReachOf_B1 out) ((0 : Int), ([] : List Int)) = some r := h9
 have h13 := indexSome (l := out) (by omega) (q := q) (by omega) (h8b q hq hgoal) h9
 refine ⟨r, ?_, ?_, h13, h10⟩
 ·unfold spec_ReachOf
  simp only [specGame (show M.length ≤ 1048576 by omega) hM, hg, in64, hpp, Option.bind_some, Bool.not_true, cond_false, guard_pos jb, e0, hb3, h1, h5, h12]
 ·unfold impl_ReachOf impl_Game_all impl_indicesOf
  simp only [implGame (show M.length ≤ 1048576 by omega) hM (show O.length ≤ 1048576 by omega) (show R.length ≤ 1048576 by omega), hg, within64, hpp, implSet (n := lenI O) (show [(q : Int)].length ≤ 1048576 by simp), hs, Option.bind_some, Bool.not_true, cond_false, guard_pos ja, e0, h2, h6, h11, h9]

end Go.Proofs


/-
 What the law says of games: the whole.
-/
namespace Go.Proofs
open Go.Ide Go.IntWalk

theorem implSame {O R : List Int} {M : List (List Int)} (h1 : O.length ≤ 1048576) (h2 : R.length ≤ 1048576) (h3 : M.length ≤ 1048576) (h4 : ∀ y ∈ M, y.length ≤ 1048576) : impl_SameGame (O, R, M) (O, R, M) = some true := by
 have := rounds_all (f := slices_EqualFunc_____int64_____int64___int64___int64_fn2_slices_Equal___int64_int64_B1 M M) (fun i => ((i : Nat) : Int)) (fun _ => true) (Sum.inl ()) (Sum.inr ()) (n := M.length) (fun i hi => by
  unfold slices_EqualFunc_____int64_____int64___int64___int64_fn2_slices_Equal___int64_int64_B1
  simp only [lenI, ltN hi, cond_true, Int.toNat_natCast, nextN hi (show M.length ≤ 4294967296 by omega), guard_pos (idxN hi), sameI _ (h4 _ (mem_getD hi [])), Option.bind_some, Bool.not_true, cond_false]) (by
  unfold slices_EqualFunc_____int64_____int64___int64___int64_fn2_slices_Equal___int64_int64_B1
  simp only [lenI, geN (Nat.le_refl _), cond_false]) M.length 0 (by omega)
 rw [show allN (fun _ => true) M.length 0 = true from allN_iff.2 fun _ _ _ => rfl] at this
 simp only [Int.natCast_zero] at this
 unfold impl_SameGame slices_EqualFunc_____int64_____int64___int64___int64_fn2_slices_Equal___int64_int64
 simp only [sameI O h1, sameI R h2, bne_self_eq_false, this, Option.bind_some, cond_true, cond_false]

theorem sharedTwo {O R : List Int} {M : List (List Int)} (hM : ∀ y ∈ M, y.length ≤ 1048576) (hg : okG O R M = true) {k : Int} (hk : 1 ≤ k ∧ k ≤ 8) : impl_GamesShared [(O, R, M), (O, R, M)] k = some ([solV O R M, solV O R M], true) := by
 have g := game_of hM hg
 have n2 := g.n2
 have lr := g.lr
 have lm := g.lm
 have hs : impl_SolveGame (O, R, M) = some (solV O R M, true) := by
  unfold impl_SolveGame
  simp only [implGame (show M.length ≤ 1048576 by omega) hM (show O.length ≤ 1048576 by omega) (show R.length ≤ 1048576 by omega), hg, implWinners g, Option.bind_some, Bool.not_true, cond_false]
 have hkk : (decide (k ≥ 1) && decide (k ≤ 8)) = true := by simp; omega
 have s0 : impl_GamesShared_B1 [(O, R, M), (O, R, M)] ((0 : Int), ([] : List (List Int))) = some (.inl ((1 : Int), [solV O R M])) := by
  unfold impl_GamesShared_B1
  have d : decide ((0 : Int) < lenI [(O, R, M), (O, R, M)]) = true := by simp [lenI]
  have e : wadd .i64 (0 : Int) 1 = 1 := by rw [waddI (by omega)]; rfl
  simp only [d, cond_true, guard_pos (show (0 : Int) ≤ 0 ∧ (0 : Int) < lenI [(O, R, M), (O, R, M)] by simp [lenI]), show Int.toNat 0 = 0 from rfl, List.getD_cons_zero, hs, Option.bind_some, Bool.not_true, cond_false, e, List.nil_append]
  rw [guard_pos (by simp [appMax])]
 have s1 : impl_GamesShared_B1 [(O, R, M), (O, R, M)] ((1 : Int), [solV O R M]) = some (.inl ((2 : Int), [solV O R M, solV O R M])) := by
  unfold impl_GamesShared_B1
  have d : decide ((1 : Int) < lenI [(O, R, M), (O, R, M)]) = true := by simp [lenI]
  have e : wadd .i64 (1 : Int) 1 = 2 := by rw [waddI (by omega)]; rfl
  simp only [d, cond_true, guard_pos (show (0 : Int) ≤ 1 ∧ (1 : Int) < lenI [(O, R, M), (O, R, M)] by simp [lenI]), show Int.toNat 1 = 1 from rfl, List.getD_cons_succ, List.getD_cons_zero, hs, Option.bind_some, Bool.not_true, cond_false, e]
  rw [guard_pos (by simp [appMax])]
  rfl
 have s2 : impl_GamesShared_B1 [(O, R, M), (O, R, M)] ((2 : Int), [solV O R M, solV O R M]) = some (.inr (.inl [solV O R M, solV O R M])) := by
  unfold impl_GamesShared_B1
  have d : decide ((2 : Int) < lenI [(O, R, M), (O, R, M)]) = false := by simp [lenI]
  simp only [d, cond_false]
 have hr : rounds (impl_GamesShared_B1 [(O, R, M), (O, R, M)]) ((0 : Int), ([] : List (List Int))) = some (.inl [solV O R M, solV O R M]) := by
  rw [rounds_eq, s0]
  simp only
  rw [rounds_eq, s1]
  simp only
  rw [rounds_eq, s2]
 unfold impl_GamesShared
 have d : decide (lenI [(O, R, M), (O, R, M)] > (8 : Int)) = false := by simp [lenI]
 simp only [d, cond_false, within64, hkk, Option.bind_some, Bool.not_true, hr]

theorem FnGames_law (x0 x1 : List Int) (w0 : WfD (.sl (.int .u8)) x0) (w1 : WfD (.sl (.int .u8)) x1) : laws_FnGames x0 x1 = some true := by
 unfold laws_FnGames laws_b10Long
 by_cases c0 : lenI x0 > (1048576 : Int)
 ·simp only [c0, decide_true, cond_true, Option.bind_some]
 ·by_cases c1 : lenI x1 > (1048576 : Int)
  ·simp only [c0, c1, decide_true, decide_false, cond_true, cond_false, Option.bind_some]
  ·simp only [c0, c1, decide_false, cond_false, Option.bind_some]
   have b0 := bytesI_wf w0 (by simp only [lenI] at c0; omega)
   have b1 := bytesI_wf w1 (by simp only [lenI] at c1; omega)
   obtain ⟨O, R, M, e4, hg, h8, hM16⟩ := drawGame b0
   have hM : ∀ y ∈ M, y.length ≤ 1048576 := fun y hy => by have := hM16 y hy; omega
   have g := game_of hM hg
   have live := live_of hg
   have n1 := g.n1
   have n2 := g.n2
   have lr := g.lr
   have lm := g.lm
   have hO : O.length ≤ 1048576 := by omega
   have hR : R.length ≤ 1048576 := by omega
   have hMl : M.length ≤ 1048576 := by omega
   have hv : impl_ValidGame (O, R, M) = some true := by rw [implGame hMl hM hO hR, hg]
   have hsv : spec_l07Game (O, R, M) = some true := by rw [specGame hMl hM, hg]
   have ls := solV_len O R M
   have eS : impl_SolveGame (O, R, M) = some (solV O R M, true) := by
    unfold impl_SolveGame
    simp only [hv, implWinners g, Option.bind_some, Bool.not_true, cond_false]
   have eSs : spec_SolveGame (O, R, M) = some (solV O R M, true) := by
    unfold spec_SolveGame
    simp only [hsv, specSolve g, Option.bind_some, Bool.not_true, cond_false]
   obtain ⟨res, N, eM, hI⟩ := movesOk g live
   have lres := hI.len
   have eMv : impl_MovesOfGame (O, R, M) = some (res, true) := by
    have en : impl_none (lenI (solV O R M)) = some (List.replicate O.length (-1 : Int)) := by
     unfold impl_none
     simp only [lenI]
     rw [ls, repeatNone _ n2]; rfl
    unfold impl_MovesOfGame
    simp only [hv, implWinners g, clone_ok hMl, en, eM, Option.bind_some, Bool.not_true, cond_false]
   have eMs : spec_MovesOfGame (O, R, M) = some (res, true) := by
    obtain ⟨r, q1, q2, _⟩ := MovesOfGame_eq (x0_0 := O) (x0_1 := R) (x0_2 := M) hO hR ⟨hMl, hM⟩
    rw [eMv] at q2
    rw [q1, ← q2]
   have eT := implTurn hM hg h8
   have hgt : okG (turnO O) (turnR R) M = true := by rw [okG_turn hg, h8]; rfl
   have gt0 := game_of hM hgt
   have lto : (turnO O).length = O.length := by simp [turnO]
   have ltr : (turnR R).length = R.length := by simp [turnR]
   have gt : Game O.length (turnO O) (turnR R) M := by rw [← lto]; exact gt0
   have hvt : impl_ValidGame (turnO O, turnR R, M) = some true := by rw [implGame hMl hM (by omega) (by omega), hgt]
   have hst : spec_ValidGame (turnO O, turnR R, M) = some true := by
    unfold spec_ValidGame
    simp only [specGame hMl hM, hgt, Option.bind_some]
   have eSt : impl_SolveGame (turnO O, turnR R, M) = some (solV (turnO O) (turnR R) M, true) := by
    unfold impl_SolveGame
    simp only [hvt, implWinners gt, Option.bind_some, Bool.not_true, cond_false]
   have lst := solV_len (turnO O) (turnR R) M
   obtain ⟨k, ek, k1, k2⟩ := b10At_ok b1 (i := 0) (n := 8) (by omega)
   have hk : wadd .i64 (1 : Int) k = 1 + k := waddI (by omega)
   have eG := sharedTwo hM hg (k := 1 + k) (by omega)
   have eW := isWin_true hM hg g hI
   obtain ⟨rw', q1, q2⟩ := IsWinning_eq (x0_0 := O) (x0_1 := R) (x0_2 := M) (x1_0 := solV O R M) (x2_0 := res) hO hR ⟨hMl, hM⟩ (by omega) (by omega)
   rw [eW] at q2
   injection q2 with q2
   subst q2
   have d1 : (lenI (solV O R M) != lenI O) = false := by simp only [lenI, ls, bne_self_eq_false]
   have d2 : (lenI [solV O R M, solV O R M] != (2 : Int)) = false := by simp [lenI]
   have g0 : (0 : Int) ≤ (0 : Int) ∧ (0 : Int) < lenI [solV O R M, solV O R M] := by simp [lenI]
   have d3 : (lenI (solV (turnO O) (turnR R) M) != lenI (solV O R M)) = false := by simp only [lenI, ls, lst, lto, bne_self_eq_false]
   simp only [e4, eS, eSs, eMv, eMs, eT, ek, hk, eG, hv, implSame hO hR hMl hM, intsG (solV O R M) (by omega), intsG res (by omega), d1, d2, guard_pos g0, show Int.toNat 0 = 0 from rfl, List.getD_cons_zero, eW, q1, hst, eSt, d3, Option.bind_some, Bool.not_true, cond_false]
   rw [guard_pos (by simp only [appMax]; omega)]
   -- the turned winners
   have hturn : ∀ i, i < O.length → (solV (turnO O) (turnR R) M).getD i 0 = 1 - (solV O R M).getD i 0 ∧ ((solV O R M).getD i 0 = 0 ∨ (solV O R M).getD i 0 = 1) := fun i hi => by
    have a1 := sol_get g hi
    have a2 := (sol_get gt hi).1
    have a3 := turn_won g gt live hi
    omega
   obtain ⟨r, h1, W', rfl, h2, h3⟩ := rounds_inv (f := laws_FnGames_B1 (solV O R M, true) (solV (turnO O) (turnR R) M, true)) (fun m s => ∃ (i : Nat) (W' : List Int), m + i = O.length ∧ s = ((i : Int), W') ∧ W'.length = O.length ∧ (∀ j, j < O.length → W'.getD j 0 = if j < i then 1 - (solV O R M).getD j 0 else (solV O R M).getD j 0))
    (fun r => ∃ W', r = .inl W' ∧ W'.length = O.length ∧ ∀ j, j < O.length → W'.getD j 0 = 1 - (solV O R M).getD j 0) (by
    rintro m s ⟨i, W', hm, rfl, lW, hW⟩
    unfold laws_FnGames_B1
    by_cases hi : i < O.length
    ·obtain ⟨t1, t2⟩ := hturn i hi
     have hw : W'.getD i 0 = (solV O R M).getD i 0 := by rw [hW i hi, if_neg (Nat.lt_irrefl i)]
     have e1 : wsub .i64 (1 : Int) ((solV O R M).getD i 0) = 1 - (solV O R M).getD i 0 := wsubI (by omega)
     simp only [lenI, lst, lto, ls, lW, ltN hi, cond_true, Int.toNat_natCast, guard_pos (idxN hi), t1, hw, e1, bne_self_eq_false, nextN hi (show O.length ≤ 4294967296 by omega)]
     have hb : (bif (solV O R M).getD i 0 != (0 : Int) then (bif (solV O R M).getD i 0 != (1 : Int) then some true else some false : Option Bool) else some false) = some false := by
      rcases t2 with h | h <;> rw [h] <;> rfl
     rw [hb]
     simp only [Option.bind_some, cond_false]
     refine .inl ⟨m - 1, _, by omega, rfl, i + 1, _, by omega, rfl, by simpa using lW, fun j hj => ?_⟩
     by_cases e : j = i
     ·subst e
      rw [if_pos (by omega)]
      simp [List.getD_eq_getElem?_getD, lW, hi]
     ·rw [List.getD_eq_getElem?_getD, List.getElem?_set_ne (fun h => e h.symm), ← List.getD_eq_getElem?_getD, hW j hj]
      by_cases e2 : j < i
      ·rw [if_pos e2, if_pos (by omega)]
      ·rw [if_neg e2, if_neg (by omega)]
    ·simp only [lenI, lst, lto, geN (show O.length ≤ i by omega), cond_false]
     exact .inr ⟨_, rfl, W', rfl, lW, fun j hj => by rw [hW j hj, if_pos (by omega)]⟩) O.length ((0 : Int), solV O R M) ⟨0, _, by omega, rfl, ls, fun j _ => by rw [if_neg (Nat.not_lt_zero j)]⟩
   have eF := isWin_false hM hg g hI h2 h3
   obtain ⟨y, ey, y1, y2⟩ := b10At_ok b1 (i := 1) (n := lenI O) (by omega)
   obtain ⟨q, rfl⟩ : ∃ q : Nat, y = (q : Int) := ⟨y.toNat, by omega⟩
   have hq : q < O.length := by simp only [lenI] at y2; omega
   obtain ⟨p, ep, p1, p2⟩ := b10At_ok b1 (i := 2) (n := 2) (by omega)
   obtain ⟨rr, r1, r2, r3, r4⟩ := reachOne hM hg hq (p := p) (by omega)
   have d4 : decide (lenI rr ≥ (1 : Int)) = true := by simp [lenI]; omega
   simp only [h1, Option.bind_some, ey, ep, r1, r2, intsG rr (by omega), d4, eF, cond_true, Bool.not_false]

end Go.Proofs
