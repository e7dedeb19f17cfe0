import Derived.Test.YthilbincoogfkaaRecoverKeptsGenB
set_option linter.unusedVariables false
set_option linter.unusedSimpArgs false
set_option linter.unusedSectionVars false

namespace Go.Proofs
open Go.Ide Go.IntWalk

theorem eqInt64S_ok {xs : List Int} (h : xs.length ≤ 1048576) : laws_eqInt64S xs xs = some true := by
  unfold laws_eqInt64S
  have := loop_eq (f := laws_eqInt64S_B1 xs xs) (Sum.inl ()) xs.length (fun i hi => by
    unfold laws_eqInt64S_B1
    simp only [ltN hi, cond_true, guard_pos (idxN hi), bne_self_eq_false, cond_false, nextN hi (by omega)]) (by
    unfold laws_eqInt64S_B1
    simp only [geN (Nat.le_refl _), cond_false])
  simp only [bne_self_eq_false, cond_false, this, Option.bind_some]

theorem eqBoolS_ok {xs : List Bool} (h : xs.length ≤ 1048576) : laws_eqBoolS xs xs = some true := by
  unfold laws_eqBoolS
  have := loop_eq (f := laws_eqBoolS_B1 xs xs) (Sum.inl ()) xs.length (fun i hi => by
    unfold laws_eqBoolS_B1
    simp only [ltN hi, cond_true, guard_pos (idxN hi), bne_self_eq_false, cond_false, nextN hi (by omega)]) (by
    unfold laws_eqBoolS_B1
    simp only [geN (Nat.le_refl _), cond_false])
  simp only [bne_self_eq_false, cond_false, this, Option.bind_some]

theorem markInt64S_ok {xs : List Int} {k : Int} (h : xs.length ≤ 1048576) (hk : 0 ≤ k ∧ k ≤ 2000000000000) : laws_markInt64S xs k = some (k + ((1 * xs.length : Nat) : Int), marksG (fun k => k) 1 k xs.length) := by
  unfold laws_markInt64S
  have := loop_mark (f := laws_markInt64S_B1) (fun k => k) 1 k xs (fun i out hi hl => by
    unfold laws_markInt64S_B1
    have e := markN2 (c := 1) (i := i) (k0 := k) (by omega) (by omega) (by omega)
    simp only [lenI, hl, ltN hi, cond_true, guard_pos (idxN hi), Int.toNat_natCast, nextN hi (by omega)]
    simp only [Int.cast_ofNat_Int] at e
    rw [e]) (fun out hl => by
    unfold laws_markInt64S_B1
    simp only [lenI, hl, geN (Nat.le_refl _), cond_false])
  simp only [this, Option.bind_some]
  rw [guard_pos marksG_len]

theorem markBoolS_ok {xs : List Bool} {k : Int} (h : xs.length ≤ 1048576) (hk : 0 ≤ k ∧ k ≤ 2000000000000) : laws_markBoolS xs k = some (k + ((1 * xs.length : Nat) : Int), marksG (fun k => (Int.tmod k (3 : Int) == (0 : Int))) 1 k xs.length) := by
  unfold laws_markBoolS
  have := loop_mark (f := laws_markBoolS_B1) (fun k => (Int.tmod k (3 : Int) == (0 : Int))) 1 k xs (fun i out hi hl => by
    unfold laws_markBoolS_B1
    have e := markN2 (c := 1) (i := i) (k0 := k) (by omega) (by omega) (by omega)
    simp only [lenI, hl, ltN hi, cond_true, guard_pos (idxN hi), Int.toNat_natCast, nextN hi (by omega)]
    simp only [Int.cast_ofNat_Int] at e
    rw [e]) (fun out hl => by
    unfold laws_markBoolS_B1
    simp only [lenI, hl, geN (Nat.le_refl _), cond_false])
  simp only [this, Option.bind_some]
  rw [guard_pos marksG_len]

theorem heldInt64S_ok {n : Nat} {k : Int} (h : n ≤ 1048576) (hk : 0 ≤ k ∧ k ≤ 1000000000) : laws_heldInt64S (marksG (fun k => k) 1 k n) k = some (k + ((1 * n : Nat) : Int)) := by
  unfold laws_heldInt64S
  have := loop_held (f := laws_heldInt64S_B1 (marksG (fun k => k) 1 k n)) 1 k n (fun i hi => by
    unfold laws_heldInt64S_B1
    have e := markN (c := 1) (i := i) (k0 := k) (by omega) (by omega) (by omega)
    simp only [Int.cast_ofNat_Int] at e
    simp only [lenI, marksG_len, ltN hi, cond_true, guard_pos (idxN hi), Int.toNat_natCast, nextN hi (by omega), marksG_get hi, bne_self_eq_false, cond_false]
    rw [e]) (by
    unfold laws_heldInt64S_B1
    simp only [lenI, marksG_len, geN (Nat.le_refl _), cond_false])
  simp only [this, Option.bind_some]

theorem heldBoolS_ok {n : Nat} {k : Int} (h : n ≤ 1048576) (hk : 0 ≤ k ∧ k ≤ 1000000000) : laws_heldBoolS (marksG (fun k => (Int.tmod k (3 : Int) == (0 : Int))) 1 k n) k = some (k + ((1 * n : Nat) : Int)) := by
  unfold laws_heldBoolS
  have := loop_held (f := laws_heldBoolS_B1 (marksG (fun k => (Int.tmod k (3 : Int) == (0 : Int))) 1 k n)) 1 k n (fun i hi => by
    unfold laws_heldBoolS_B1
    have e := markN (c := 1) (i := i) (k0 := k) (by omega) (by omega) (by omega)
    simp only [Int.cast_ofNat_Int] at e
    simp only [lenI, marksG_len, ltN hi, cond_true, guard_pos (idxN hi), Int.toNat_natCast, nextN hi (by omega), marksG_get hi, bne_self_eq_false, cond_false]
    rw [e]) (by
    unfold laws_heldBoolS_B1
    simp only [lenI, marksG_len, geN (Nat.le_refl _), cond_false])
  simp only [this, Option.bind_some]

theorem eqPlain_ok {x0 : Int} {x1 : Int} {x2 : List Int} {x3 : List Bool} (hx2 : x2.length ≤ 1048576) (hx3 : x3.length ≤ 1048576) : laws_eqPlain (x0, x1, x2, x3) (x0, x1, x2, x3) = some true := by
  unfold laws_eqPlain
  simp only [eqInt64S_ok hx2, eqBoolS_ok hx3, Option.bind_some, bne_self_eq_false, Bool.not_true, cond_false, decide_true]

theorem eqKept_ok {x0 : List UInt8} {x1 : Int} {x2 : Int} {x3 : List Int} {x4 : List Bool} (hx0 : x0.length ≤ 1048576) (hx3 : x3.length ≤ 1048576) (hx4 : x4.length ≤ 1048576) : laws_eqKept (x0, x1, x2, x3, x4) (x0, x1, x2, x3, x4) = some true := by
  unfold laws_eqKept
  simp only [eqPlain_ok hx3 hx4, Option.bind_some, bne_self_eq_false, Bool.not_true, cond_false, decide_true]

theorem eqKeptS_ok {xs : List (List UInt8 × Int × Int × List Int × List Bool)} (h : (xs.length ≤ 1048576 ∧ ∀ y ∈ xs, y.1.length ≤ 1048576 ∧ y.2.2.2.1.length ≤ 1048576 ∧ y.2.2.2.2.length ≤ 1048576)) : laws_eqKeptS xs xs = some true := by
  obtain ⟨h, hh⟩ := h
  unfold laws_eqKeptS
  have := loop_eq (f := laws_eqKeptS_B1 xs xs) (Sum.inl ()) xs.length (fun i hi => by
    have he := hh _ (mem_getD hi (([] : List UInt8), (0 : Int), (0 : Int), ([] : List Int), ([] : List Bool)))
    unfold laws_eqKeptS_B1
    simp only [ltN hi, cond_true, guard_pos (idxN hi), Int.toNat_natCast, eqKept_ok (x0 := ((List.getD xs i (([] : List UInt8), (0 : Int), (0 : Int), ([] : List Int), ([] : List Bool))).1)) (x1 := (((List.getD xs i (([] : List UInt8), (0 : Int), (0 : Int), ([] : List Int), ([] : List Bool))).2).1)) (x2 := ((((List.getD xs i (([] : List UInt8), (0 : Int), (0 : Int), ([] : List Int), ([] : List Bool))).2).2).1)) (x3 := (((((List.getD xs i (([] : List UInt8), (0 : Int), (0 : Int), ([] : List Int), ([] : List Bool))).2).2).2).1)) (x4 := (((((List.getD xs i (([] : List UInt8), (0 : Int), (0 : Int), ([] : List Int), ([] : List Bool))).2).2).2).2)) he.1 he.2.1 he.2.2, Option.bind_some, Bool.not_true, cond_false, nextN hi (by omega)]) (by
    unfold laws_eqKeptS_B1
    simp only [geN (Nat.le_refl _), cond_false])
  simp only [bne_self_eq_false, cond_false, this, Option.bind_some]

-- no lemma for markKeptS: mark
-- no lemma for heldKeptS: held
end Go.Proofs


namespace Go.Proofs
open Go.Ide Go.IntWalk

theorem in64 (a b c : Int) : spec_l00In a b c = some (decide (a ≥ b) && decide (a ≤ c)) := by
  unfold spec_l00In
  cases h : decide (a ≥ b) <;> simp
theorem within64 (a b c : Int) : impl_within a b c = some (decide (a ≥ b) && decide (a ≤ c)) := by
  unfold impl_within
  cases h : decide (a ≥ b) <;> simp

def allIn (xs : List Int) (b c : Int) : Bool := xs.all fun x => decide (x ≥ b) && decide (x ≤ c)

theorem allIn_iff {xs : List Int} {b c : Int} : allIn xs b c = true ↔ ∀ i, i < xs.length → b ≤ xs.getD i 0 ∧ xs.getD i 0 ≤ c := by
  unfold allIn
  rw [List.all_eq_true]
  constructor
  · intro h i hi
    have := h xs[i] (List.getElem_mem hi)
    simp only [Bool.and_eq_true, decide_eq_true_eq] at this
    rw [List.getD_eq_getElem?_getD, List.getElem?_eq_getElem hi]
    exact ⟨this.1, this.2⟩
  · intro h x hx
    obtain ⟨i, hi, rfl⟩ := List.getElem_of_mem hx
    have := h i hi
    rw [List.getD_eq_getElem?_getD, List.getElem?_eq_getElem hi] at this
    simp only [Bool.and_eq_true, decide_eq_true_eq]
    exact ⟨this.1, this.2⟩

theorem allN_in (xs : List Int) (b c : Int) : allN (fun i => decide (xs.getD i 0 ≥ b) && decide (xs.getD i 0 ≤ c)) xs.length 0 = allIn xs b c := by
  rw [Bool.eq_iff_iff, allN_iff, allIn_iff]
  constructor
  · intro h i hi
    have := h i (by omega) (by omega)
    simp only [Bool.and_eq_true, decide_eq_true_eq] at this
    exact ⟨this.1, this.2⟩
  · intro h i _ hi
    have := h i (by omega)
    simp only [Bool.and_eq_true, decide_eq_true_eq]
    exact ⟨this.1, this.2⟩

theorem areWithin64 {xs : List Int} {b c : Int} (h : xs.length ≤ 4294967296) : impl_areWithin xs b c = some (allIn xs b c) := by
  unfold impl_areWithin
  have := rounds_all (f := impl_areWithin_B1 xs b c) (fun i => ((i : Nat) : Int)) (fun i => decide (xs.getD i 0 ≥ b) && decide (xs.getD i 0 ≤ c)) (Sum.inl ()) (Sum.inr ()) (n := xs.length) (fun i hi => by
    unfold impl_areWithin_B1
    simp only [ltN hi, cond_true, guard_pos (idxN hi), Int.toNat_natCast, within64, Option.bind_some, nextN hi h]
    cases (decide (xs.getD i 0 ≥ b) && decide (xs.getD i 0 ≤ c)) <;> rfl) (by
    unfold impl_areWithin_B1
    simp only [geN (Nat.le_refl _), cond_false]) xs.length 0 (by omega)
  rw [allN_in] at this
  simp only [Int.natCast_zero] at this
  simp only [this, Option.bind_some]
  cases allIn xs b c <;> rfl

def okPlain (s l : Int) (nx : List Int) (es : List Bool) : Bool :=
  (decide (s ≥ 1) && decide (s ≤ 64)) && ((decide (l ≥ 1) && decide (l ≤ 4)) && ((lenI nx == wmul .i64 s l) && ((lenI es == s) && allIn nx 0 (wsub .i64 s 1))))

theorem specPlain {s l : Int} {nx : List Int} {es : List Bool} (h : nx.length ≤ 4294967296) : spec_l02Plain (s, l, nx, es) = some (okPlain s l nx es) := by
  unfold spec_l02Plain okPlain
  simp only [in64, Option.bind_some]
  have := rounds_all (f := spec_l02Plain_B1 (s, l, nx, es)) (fun i => ((i : Nat) : Int)) (fun i => decide (nx.getD i 0 ≥ 0) && decide (nx.getD i 0 ≤ wsub .i64 s 1)) (Sum.inl ()) (Sum.inr ()) (n := nx.length) (fun i hi => by
    unfold spec_l02Plain_B1
    simp only [ltN hi, cond_true, guard_pos (idxN hi), Int.toNat_natCast, in64, Option.bind_some, nextN hi h]
    cases (decide (nx.getD i 0 ≥ 0) && decide (nx.getD i 0 ≤ wsub .i64 s 1)) <;> rfl) (by
    unfold spec_l02Plain_B1
    simp only [geN (Nat.le_refl _), cond_false]) nx.length 0 (by omega)
  rw [allN_in] at this
  simp only [Int.natCast_zero] at this
  simp only [this, Option.bind_some, bne]
  cases (decide (s ≥ 1) && decide (s ≤ 64)) <;> cases (decide (l ≥ 1) && decide (l ≤ 4)) <;> cases (lenI nx == wmul .i64 s l) <;> cases (lenI es == s) <;> cases allIn nx 0 (wsub .i64 s 1) <;> rfl

theorem implPlain {s l : Int} {nx : List Int} {es : List Bool} (h : nx.length ≤ 4294967296) : impl_ValidPlain (s, l, nx, es) = some (okPlain s l nx es) := by
  unfold impl_ValidPlain okPlain
  simp only [within64, areWithin64 h, Option.bind_some]
  cases (decide (s ≥ 1) && decide (s ≤ 64)) <;> cases (decide (l ≥ 1) && decide (l ≤ 4)) <;> cases (lenI nx == wmul .i64 s l) <;> cases (lenI es == s) <;> cases allIn nx 0 (wsub .i64 s 1) <;> rfl

theorem okPlain_spec {s l : Int} {nx : List Int} {es : List Bool} (h : okPlain s l nx es = true) : ∃ m c : Nat, s = (m : Int) ∧ l = (c : Int) ∧ 1 ≤ m ∧ m ≤ 64 ∧ 1 ≤ c ∧ c ≤ 4 ∧ nx.length = m * c ∧ es.length = m ∧ ∀ i, i < m * c → ∃ t : Nat, nx.getD i 0 = (t : Int) ∧ t < m := by
  unfold okPlain at h
  simp only [Bool.and_eq_true, decide_eq_true_eq, beq_iff_eq] at h
  obtain ⟨⟨h1, h2⟩, ⟨h3, h4⟩, h5, h6, h7⟩ := h
  obtain ⟨m, rfl⟩ : ∃ n : Nat, s = (n : Int) := ⟨s.toNat, by omega⟩
  obtain ⟨c, rfl⟩ : ∃ n : Nat, l = (n : Int) := ⟨l.toNat, by omega⟩
  have hmc : m * c ≤ 64 * 4 := Nat.mul_le_mul (by omega) (by omega)
  rw [wmulI (by rw [← Int.natCast_mul]; omega), ← Int.natCast_mul] at h5
  have hl : nx.length = m * c := by simp only [lenI] at h5; omega
  refine ⟨m, c, rfl, rfl, by omega, by omega, by omega, by omega, hl, by simp only [lenI] at h6; omega, fun i hi => ?_⟩
  have := allIn_iff.1 h7 i (by omega)
  rw [wsubI (by omega)] at this
  exact ⟨(nx.getD i 0).toNat, by omega, by omega⟩

structure Plain (m c : Nat) (nx : List Int) (es : List Bool) : Prop where
  m1 : 1 ≤ m
  m2 : m ≤ 64
  c1 : 1 ≤ c
  c2 : c ≤ 4
  len : nx.length = m * c
  ends : es.length = m
  to : ∀ i, i < m * c → ∃ t : Nat, nx.getD i 0 = (t : Int) ∧ t < m

section
variable {m c : Nat} {nx : List Int} {es : List Bool} (hp : Plain m c nx es)
include hp

end

end Go.Proofs


namespace Go.Proofs
open Go.Ide Go.IntWalk

def okName (s : List UInt8) : Bool := allN (fun i => !(decide (ub s i < 97) || decide (ub s i > 122))) s.length 0 && (decide (lenI s ≥ 1) && decide (lenI s ≤ 8))

theorem impl_name {s : List UInt8} (h : s.length ≤ 4294967296) : impl_IsName s = some (okName s) := by
  unfold impl_IsName okName
  have := rounds_all (f := impl_IsName_B1 s) (fun i => ((i : Nat) : Int)) (fun i => !(decide (ub s i < 97) || decide (ub s i > 122))) (Sum.inl ()) (Sum.inr ()) (n := s.length) (fun i hi => by
    unfold impl_IsName_B1
    have e : ((((List.getD s i 0 : UInt8).toNat : Nat)) : Int) = ub s i := rfl
    simp only [ltN hi, cond_true, guard_pos (idxN hi), Int.toNat_natCast, nextN hi h, e]
    cases decide (ub s i < 97) <;> cases decide (ub s i > 122) <;> rfl) (by
    unfold impl_IsName_B1
    simp only [geN (Nat.le_refl _), cond_false]) s.length 0 (by omega)
  simp only [Int.natCast_zero] at this
  simp only [this, Option.bind_some]
  cases allN (fun i => !(decide (ub s i < 97) || decide (ub s i > 122))) s.length 0 <;> cases decide (lenI s ≥ 1) <;> cases decide (lenI s ≤ 8) <;> rfl

theorem spec_name {s : List UInt8} (h : s.length ≤ 4294967296) : spec_l07Name s = some (okName s) := (show spec_l07Name s = impl_IsName s from rfl).trans (impl_name h)

def chkS (s : List UInt8) (i : Nat) (n : Int) : Int := Int.tmod (wadd .i64 (wadd .i64 (wmul .i64 919 n) (IntKind.wrap .i64 (ub s i))) 191) 65003
def chk (s : List UInt8) : Int := forS (chkS s) s.length 0 0

theorem chkS_range {s : List UInt8} {i : Nat} {n : Int} (h : 0 ≤ n ∧ n ≤ 65002) : 0 ≤ chkS s i n ∧ chkS s i n ≤ 65002 := by
  have hu := ub_range s i
  unfold chkS
  rw [ub_wrap, wmulI (by omega), waddI (a := 919 * n) (b := ub s i) (by omega), waddI (by omega)]
  have h1 : 0 ≤ 919 * n + ub s i + 191 := by omega
  have h2 := Int.tmod_nonneg 65003 h1
  have h3 := Int.tmod_lt_of_pos (919 * n + ub s i + 191) (show (0 : Int) < 65003 by decide)
  omega

theorem impl_check {s : List UInt8} (h : s.length ≤ 4294967296) : impl_CheckOf 0 s = some (chk s, true) ∧ 0 ≤ chk s ∧ chk s ≤ 65002 := by
  have := rounds_forS (f := impl_CheckOf_B1 s) (fun i n => (n, ((i : Nat) : Int))) (chkS s) id (n := s.length) (fun i n => 0 ≤ n ∧ n ≤ 65002) (fun i n hi hn => ⟨by
    unfold impl_CheckOf_B1
    have e : ((((List.getD s i 0 : UInt8).toNat : Nat)) : Int) = ub s i := rfl
    simp only [ltN hi, cond_true, guard_pos (idxN hi), Int.toNat_natCast, nextN hi h, e]
    rfl, chkS_range hn⟩) (fun n _ => by
    unfold impl_CheckOf_B1
    simp only [geN (Nat.le_refl _), cond_false]; rfl) s.length 0 0 (by omega) (by omega)
  simp only [Int.natCast_zero] at this
  refine ⟨?_, this.2⟩
  unfold impl_CheckOf
  simp only [within64, Option.bind_some, this.1]
  rfl

theorem spec_check {s : List UInt8} (h : s.length ≤ 4294967296) : spec_l01Check 0 s = some (chk s) := by
  have h1 := (impl_check h).1
  unfold impl_CheckOf at h1
  simp only [within64, Option.bind_some] at h1
  have e : spec_l01Check 0 s = (rounds (impl_CheckOf_B1 s) (0, 0)).bind fun r3 => some r3 := rfl
  rw [e]
  cases hr : rounds (impl_CheckOf_B1 s) (0, 0) with
  | none =>
    rw [hr] at h1
    cases h1
  | some r =>
    rw [hr] at h1
    have h1 : some (r, true) = some (chk s, true) := h1
    injection h1 with h1
    injection h1 with h1 _
    rw [h1]; rfl

def okKept (nm : List UInt8) (s l : Int) (nx : List Int) (es : List Bool) : Bool := okName nm && okPlain s l nx es

section
variable {nm : List UInt8} {s l : Int} {nx : List Int} {es : List Bool} (hn : nm.length ≤ 4294967296) (hx : nx.length ≤ 4294967296)
include hn hx

theorem spec_kept : spec_l07Kept (nm, s, l, nx, es) = some (okKept nm s l nx es) := by
  unfold spec_l07Kept okKept
  simp only [spec_name hn, specPlain hx, Option.bind_some]
  cases okName nm <;> rfl

theorem impl_kept : impl_ValidKept (nm, s, l, nx, es) = some (okKept nm s l nx es) := by
  unfold impl_ValidKept okKept
  simp only [impl_name hn, implPlain hx, Option.bind_some]
  cases okName nm <;> rfl
end

def storeHd (nm : List UInt8) (s l : Int) : List Int := (([65, 85, 84, 49] ++ [IntKind.wrap .u8 (lenI nm)]) ++ bytesI nm) ++ [IntKind.wrap .u8 s, IntKind.wrap .u8 l]
def storeBody (nm : List UInt8) (s l : Int) (nx : List Int) (es : List Bool) : List Int :=
  (storeHd nm s l ++ (List.range nx.length).map fun i => IntKind.wrap .u8 (nx.getD i 0)) ++ (List.range es.length).map fun i => if es.getD i false then 1 else 0
def storeB (nm : List UInt8) (s l : Int) (nx : List Int) (es : List Bool) : List UInt8 :=
  bytesO (storeBody nm s l nx es ++ [IntKind.wrap .u8 (chk (bytesO (storeBody nm s l nx es))), IntKind.wrap .u8 (chk (bytesO (storeBody nm s l nx es)) / 256)])

theorem storeHd_len (nm : List UInt8) (s l : Int) : (storeHd nm s l).length = nm.length + 7 := by
  unfold storeHd
  simp only [List.length_append, List.length_cons, List.length_nil, bytesI_len]
  omega
theorem storeBody_len (nm : List UInt8) (s l : Int) (nx : List Int) (es : List Bool) : (storeBody nm s l nx es).length = nm.length + 7 + nx.length + es.length := by
  unfold storeBody
  simp only [List.length_append, storeHd_len, List.length_map, List.length_range]
theorem storeB_len (nm : List UInt8) (s l : Int) (nx : List Int) (es : List Bool) : (storeB nm s l nx es).length = nm.length + 9 + nx.length + es.length := by
  unfold storeB
  simp only [bytesO_len, List.length_append, storeBody_len, List.length_cons, List.length_nil]
  omega

theorem okKept_len {nm : List UInt8} {s l : Int} {nx : List Int} {es : List Bool} (h : okKept nm s l nx es = true) : nm.length ≤ 8 ∧ nx.length ≤ 256 ∧ es.length ≤ 64 := by
  unfold okKept okName at h
  simp only [Bool.and_eq_true, decide_eq_true_eq, lenI] at h
  obtain ⟨⟨_, h1, h2⟩, h3⟩ := h
  obtain ⟨m, c, rfl, rfl, a1, a2, a3, a4, a5, a6, _⟩ := okPlain_spec h3
  have : m * c ≤ 64 * 4 := Nat.mul_le_mul a2 a4
  omega

section
variable {nm : List UInt8} {s l : Int} {nx : List Int} {es : List Bool} (hn : nm.length ≤ 1048576) (hx : nx.length ≤ 1048576) (he : es.length ≤ 1048576)
include hn hx he

theorem spec_store : spec_l07Store (nm, s, l, nx, es) = some (storeB nm s l nx es) := by
  have hd := storeHd_len nm s l
  have hb := storeBody_len nm s l nx es
  have e2 := loop_app (f := spec_l07Store_B2 (nm, s, l, nx, es)) (fun i => IntKind.wrap .u8 (nx.getD i 0)) nx.length (storeHd nm s l) (fun i out hi ho => by
    unfold spec_l07Store_B2
    simp only [ltN hi, cond_true, guard_pos (idxN hi), Int.toNat_natCast, nextN hi (by omega)]
    rw [guard_pos (appOK (by simp only [List.length_cons, List.length_nil]; omega))]) (fun out => by
    unfold spec_l07Store_B2
    simp only [geN (Nat.le_refl _), cond_false])
  have e1 := loop_app (f := spec_l07Store_B1 (nm, s, l, nx, es)) (fun i => if es.getD i false then (1 : Int) else 0) es.length (storeHd nm s l ++ (List.range nx.length).map fun i => IntKind.wrap .u8 (nx.getD i 0)) (fun i out hi ho => by
    unfold spec_l07Store_B1
    have hl : out.length = nm.length + 7 + nx.length + i := by rw [ho]; simp only [List.length_append, hd, List.length_map, List.length_range]
    have g : ∀ v : Int, List.length out + List.length ([v] : List Int) ≤ appMax := fun v => appOK (by simp only [List.length_cons, List.length_nil]; omega)
    simp only [ltN hi, cond_true, guard_pos (idxN hi), Int.toNat_natCast, nextN hi (by omega)]
    cases es.getD i false with
    | true => simp only [cond_true, if_true, Option.bind_some, guard_pos (g 1)]
    | false => simp only [cond_false, Bool.false_eq_true, if_false, Option.bind_some, guard_pos (g 0)]) (fun out => by
    unfold spec_l07Store_B1
    simp only [geN (Nat.le_refl _), cond_false])
  have hc := impl_check (s := bytesO (storeBody nm s l nx es)) (by rw [bytesO_len]; omega)
  have hs := spec_check (s := bytesO (storeBody nm s l nx es)) (by rw [bytesO_len]; omega)
  unfold spec_l07Store
  have e2' : rounds (spec_l07Store_B2 (nm, s, l, nx, es)) ((0 : Int), (((([(65 : Int), (85 : Int), (84 : Int), (49 : Int)] : List Int) ++ ([(IntKind.wrap .u8 (lenI nm))] : List Int)) ++ (bytesI nm)) ++ ([(IntKind.wrap .u8 s), (IntKind.wrap .u8 l)] : List Int))) = _ := e2
  have e1' : rounds (spec_l07Store_B1 (nm, s, l, nx, es)) ((0 : Int), storeHd nm s l ++ (List.range nx.length).map fun i => IntKind.wrap .u8 (nx.getD i 0)) = some (storeBody nm s l nx es) := e1
  simp only [Option.bind_some]
  rw [guard_pos (appOK (by simp only [List.length_cons, List.length_nil]; omega)), guard_pos (show List.length nm ≤ appMax from by unfold appMax; omega), guard_pos (appOK (by simp only [List.length_append, List.length_cons, List.length_nil, bytesI_len]; omega)), guard_pos (appOK (by simp only [List.length_append, List.length_cons, List.length_nil, bytesI_len]; omega))]
  simp only [e2', Option.bind_some, e1', hs]
  generalize hk : chk (bytesO (storeBody nm s l nx es)) = k at hc
  obtain ⟨_, k0, k1⟩ := hc
  have m1 : IntKind.wrap .u8 (Int.tmod k 256) = IntKind.wrap .u8 k := by
    rw [IntKind.wrap_u8, IntKind.wrap_u8, Int.tmod_eq_emod_of_nonneg k0]; omega
  have m2 : IntKind.wrap .u8 (IntKind.wrap .i64 (Int.tdiv k 256)) = IntKind.wrap .u8 (k / 256) := by
    rw [Int.tdiv_eq_ediv_of_nonneg k0, i64_in _ (by omega)]
  rw [guard_pos (appOK (by simp only [List.length_cons, List.length_nil]; omega)), m1, m2]
  unfold storeB
  rw [hk]

theorem impl_store : impl_StoreKept (nm, s, l, nx, es) = some (if okKept nm s l nx es then (storeB nm s l nx es, true) else ([], false)) := by
  have hd := storeHd_len nm s l
  have hb := storeBody_len nm s l nx es
  unfold impl_StoreKept
  simp only [impl_kept (s := s) (l := l) (nx := nx) (es := es) (nm := nm) (by omega) (by omega), Option.bind_some]
  cases hok : okKept nm s l nx es with
  | false => rfl
  | true =>
    have e2 := loop_app (f := impl_StoreKept_B2 (nm, s, l, nx, es)) (fun i => IntKind.wrap .u8 (nx.getD i 0)) nx.length (storeHd nm s l) (fun i out hi ho => by
      unfold impl_StoreKept_B2
      simp only [ltN hi, cond_true, guard_pos (idxN hi), Int.toNat_natCast, nextN hi (by omega)]
      rw [guard_pos (appOK (by simp only [List.length_cons, List.length_nil]; omega))]) (fun out => by
      unfold impl_StoreKept_B2
      simp only [geN (Nat.le_refl _), cond_false])
    have e1 := loop_app (f := impl_StoreKept_B1 (nm, s, l, nx, es)) (fun i => if es.getD i false then (1 : Int) else 0) es.length (storeHd nm s l ++ (List.range nx.length).map fun i => IntKind.wrap .u8 (nx.getD i 0)) (fun i out hi ho => by
      unfold impl_StoreKept_B1
      have hl : out.length = nm.length + 7 + nx.length + i := by rw [ho]; simp only [List.length_append, hd, List.length_map, List.length_range]
      have g : ∀ v : Int, List.length out + List.length ([v] : List Int) ≤ appMax := fun v => appOK (by simp only [List.length_cons, List.length_nil]; omega)
      simp only [ltN hi, cond_true, guard_pos (idxN hi), Int.toNat_natCast, nextN hi (by omega)]
      cases es.getD i false with
      | true => simp only [cond_true, if_true, Option.bind_some, guard_pos (g 1)]
      | false => simp only [cond_false, Bool.false_eq_true, if_false, Option.bind_some, guard_pos (g 0)]) (fun out => by
      unfold impl_StoreKept_B1
      simp only [geN (Nat.le_refl _), cond_false])
    have hc := impl_check (s := bytesO (storeBody nm s l nx es)) (by rw [bytesO_len]; omega)
    have e2' : rounds (impl_StoreKept_B2 (nm, s, l, nx, es)) ((0 : Int), (((([(65 : Int), (85 : Int), (84 : Int), (49 : Int)] : List Int) ++ ([(IntKind.wrap .u8 (lenI nm))] : List Int)) ++ bytesI nm) ++ ([(IntKind.wrap .u8 s), (IntKind.wrap .u8 l)] : List Int))) = _ := e2
    have e1' : rounds (impl_StoreKept_B1 (nm, s, l, nx, es)) ((0 : Int), storeHd nm s l ++ (List.range nx.length).map fun i => IntKind.wrap .u8 (nx.getD i 0)) = some (storeBody nm s l nx es) := e1
    simp only [Bool.not_true, cond_false, if_true, Option.bind_some]
    rw [guard_pos (appOK (by simp only [List.length_cons, List.length_nil]; omega)), guard_pos (appOK (by simp only [List.length_append, List.length_cons, List.length_nil]; omega)), guard_pos (appOK (by simp only [List.length_append, List.length_cons, List.length_nil, bytesI_len]; omega))]
    simp only [e2', Option.bind_some, e1', hc.1]
    obtain ⟨_, k0, k1⟩ := hc
    have m2 : ∀ k : Int, Int.fdiv k (2 ^ (min (Int.toNat (8 : Int)) (IntKind.bits .i64))) = k / 256 := fun k => by
      have e : (2 : Int) ^ (min (Int.toNat (8 : Int)) (IntKind.bits .i64)) = 256 := by decide
      rw [e, Int.fdiv_eq_ediv_of_nonneg _ (by decide)]
    rw [guard_pos (appOK (by simp only [List.length_cons, List.length_nil]; omega)), m2]
    rfl
end

end Go.Proofs


namespace Go.Proofs
open Go.Ide Go.IntWalk

def nxF (s : List UInt8) (n N : Nat) : List Int := (List.range N).map fun i => ub s (7 + n + i)
def esF (s : List UInt8) (n N S : Nat) : List Bool := (List.range S).map fun i => (ub s (7 + n + N + i) == 1)

section
variable {s : List UInt8} {n N S : Nat} (hs : s.length ≤ 1048576) (hn : n ≤ 255) (hN : N ≤ 65025) (hS : S ≤ 255)
include hs hn hN hS

theorem load_nx (hE : 7 + n + N ≤ s.length) : rounds (spec_l07Begin_B2 s ((5 + n : Nat) : Int) (N : Int)) ((0 : Int), ([] : List Int)) = some (nxF s n N) := by
  have := loop_app (f := spec_l07Begin_B2 s ((5 + n : Nat) : Int) (N : Int)) (fun i => ub s (7 + n + i)) N [] (fun i out hi ho => by
    unfold spec_l07Begin_B2
    have e1 : wadd .i64 (wadd .i64 ((5 + n : Nat) : Int) 2) (i : Int) = ((7 + n + i : Nat) : Int) := by
      rw [waddI (a := ((5 + n : Nat) : Int)) (b := 2) (by omega), waddI (by omega)]; omega
    have e2 : ((((List.getD s (7 + n + i) 0 : UInt8).toNat : Nat)) : Int) = ub s (7 + n + i) := rfl
    simp only [List.length_nil] at ho
    simp only [ltN hi, cond_true, e1, guard_pos (idxN (i := 7 + n + i) (n := s.length) (by omega)), Int.toNat_natCast, e2, ub_wrap, nextN hi (by omega)]
    rw [guard_pos (appOK (by simp only [List.length_cons, List.length_nil]; omega))]) (fun out => by
    unfold spec_l07Begin_B2
    simp only [geN (Nat.le_refl _), cond_false])
  rw [this]; rfl

theorem load_es (hE : 7 + n + N + S ≤ s.length) (hq : ub s (5 + n) = (S : Int)) : rounds (spec_l07Begin_B1 s ((5 + n : Nat) : Int) (N : Int)) ((0 : Int), ([] : List Bool)) = some (esF s n N S) := by
  have := loop_app (f := spec_l07Begin_B1 s ((5 + n : Nat) : Int) (N : Int)) (fun i => (ub s (7 + n + N + i) == 1)) S [] (fun i out hi ho => by
    unfold spec_l07Begin_B1
    have e0 : IntKind.wrap .i64 ((((List.getD s (5 + n) 0 : UInt8).toNat : Nat)) : Int) = (S : Int) := by
      have := ub_wrap s (5 + n); rw [hq] at this
      have e : ((((List.getD s (5 + n) 0 : UInt8).toNat : Nat)) : Int) = ub s (5 + n) := rfl
      rw [e, hq]; exact this
    have e1 : wadd .i64 (wadd .i64 (wadd .i64 ((5 + n : Nat) : Int) 2) (N : Int)) (i : Int) = ((7 + n + N + i : Nat) : Int) := by
      rw [waddI (a := ((5 + n : Nat) : Int)) (b := 2) (by omega), waddI (a := ((5 + n : Nat) : Int) + 2) (b := (N : Int)) (by omega), waddI (by omega)]; omega
    have e2 : ((((List.getD s (7 + n + N + i) 0 : UInt8).toNat : Nat)) : Int) = ub s (7 + n + N + i) := rfl
    simp only [List.length_nil] at ho
    simp only [Int.toNat_natCast, e0, Option.bind_some, ltN hi, cond_true, e1, guard_pos (idxN (i := 7 + n + N + i) (n := s.length) (by omega)), e2, nextN hi (by omega)]
    rw [guard_pos (appOK (by simp only [List.length_cons, List.length_nil]; omega))]) (fun out => by
    unfold spec_l07Begin_B1
    have e0 : IntKind.wrap .i64 ((((List.getD s (5 + n) 0 : UInt8).toNat : Nat)) : Int) = (S : Int) := by
      have := ub_wrap s (5 + n); rw [hq] at this
      have e : ((((List.getD s (5 + n) 0 : UInt8).toNat : Nat)) : Int) = ub s (5 + n) := rfl
      rw [e, hq]; exact this
    simp only [Int.toNat_natCast, e0, Option.bind_some, geN (Nat.le_refl _), cond_false])
  rw [this]; rfl
end

abbrev KeptD := List UInt8 × Int × Int × List Int × List Bool
def zeroK : KeptD := ([], 0, 0, [], [])

def loadF (s : List UInt8) : Option (KeptD × Nat) :=
  if s.length < 5 then none else
  if s.length < 7 + (ub s 4).toNat then none else
  if s.length < 9 + (ub s 4).toNat + (ub s (5 + (ub s 4).toNat)).toNat * (ub s (6 + (ub s 4).toNat)).toNat + (ub s (5 + (ub s 4).toNat)).toNat then none else
  if okKept (cut s 5 ((5 + (ub s 4).toNat : Nat) : Int)) (ub s (5 + (ub s 4).toNat)) (ub s (6 + (ub s 4).toNat)) (nxF s (ub s 4).toNat ((ub s (5 + (ub s 4).toNat)).toNat * (ub s (6 + (ub s 4).toNat)).toNat)) (esF s (ub s 4).toNat ((ub s (5 + (ub s 4).toNat)).toNat * (ub s (6 + (ub s 4).toNat)).toNat) (ub s (5 + (ub s 4).toNat)).toNat) = true ∧
      storeB (cut s 5 ((5 + (ub s 4).toNat : Nat) : Int)) (ub s (5 + (ub s 4).toNat)) (ub s (6 + (ub s 4).toNat)) (nxF s (ub s 4).toNat ((ub s (5 + (ub s 4).toNat)).toNat * (ub s (6 + (ub s 4).toNat)).toNat)) (esF s (ub s 4).toNat ((ub s (5 + (ub s 4).toNat)).toNat * (ub s (6 + (ub s 4).toNat)).toNat) (ub s (5 + (ub s 4).toNat)).toNat)
        = s.take (9 + (ub s 4).toNat + (ub s (5 + (ub s 4).toNat)).toNat * (ub s (6 + (ub s 4).toNat)).toNat + (ub s (5 + (ub s 4).toNat)).toNat) then
    some ((cut s 5 ((5 + (ub s 4).toNat : Nat) : Int), ub s (5 + (ub s 4).toNat), ub s (6 + (ub s 4).toNat), nxF s (ub s 4).toNat ((ub s (5 + (ub s 4).toNat)).toNat * (ub s (6 + (ub s 4).toNat)).toNat), esF s (ub s 4).toNat ((ub s (5 + (ub s 4).toNat)).toNat * (ub s (6 + (ub s 4).toNat)).toNat) (ub s (5 + (ub s 4).toNat)).toNat), 9 + (ub s 4).toNat + (ub s (5 + (ub s 4).toNat)).toNat * (ub s (6 + (ub s 4).toNat)).toNat + (ub s (5 + (ub s 4).toNat)).toNat)
  else none

theorem cut0 (s : List UInt8) (E : Nat) : cut s 0 (E : Int) = s.take E := by simp [cut]

theorem spec_begin {s : List UInt8} (hs : s.length ≤ 1048576) : spec_l07Begin s = some (match loadF s with | some (k, e) => (k, ((e : Nat) : Int)) | none => (zeroK, 0)) := by
  unfold spec_l07Begin loadF
  by_cases h5 : s.length < 5
  · have : decide (lenI s < (5 : Int)) = true := by simp only [lenI, decide_eq_true_eq]; omega
    rw [this, if_pos h5]; rfl
  · have e5 : decide (lenI s < (5 : Int)) = false := by simp only [lenI, decide_eq_false_iff_not]; omega
    have r4 := ub_range s 4
    have e4 : ((((List.getD s (Int.toNat (4 : Int)) 0 : UInt8).toNat : Nat)) : Int) = ub s 4 := rfl
    obtain ⟨n, hn⟩ : ∃ n : Nat, ub s 4 = (n : Int) := ⟨(ub s 4).toNat, by omega⟩
    have wn : IntKind.wrap .i64 (n : Int) = (n : Int) := i64_in _ (by omega)
    have en : wadd .i64 5 (n : Int) = ((5 + n : Nat) : Int) := by rw [waddI (by omega)]; omega
    have en2 : wadd .i64 ((5 + n : Nat) : Int) 2 = ((7 + n : Nat) : Int) := by rw [waddI (by omega)]; omega
    have en1 : wadd .i64 ((5 + n : Nat) : Int) 1 = ((6 + n : Nat) : Int) := by rw [waddI (by omega)]; omega
    have hn255 : n ≤ 255 := by omega
    simp only [e5, cond_false, if_neg h5, e4, guard_pos (show (0 : Int) ≤ (4 : Int) ∧ (4 : Int) < lenI s from by simp only [lenI]; omega), hn, wn, en, Option.bind_some, en2, Int.toNat_natCast]
    by_cases h7 : s.length < 7 + n
    · have : decide (((7 + n : Nat) : Int) > lenI s) = true := by simp only [lenI, decide_eq_true_eq]; omega
      rw [this, if_pos h7]; rfl
    · have e7 : decide (((7 + n : Nat) : Int) > lenI s) = false := by simp only [lenI, decide_eq_false_iff_not]; omega
      have rS := ub_range s (5 + n)
      have rL := ub_range s (6 + n)
      obtain ⟨S, hS⟩ : ∃ z : Nat, ub s (5 + n) = (z : Int) := ⟨(ub s (5 + n)).toNat, by omega⟩
      obtain ⟨L, hL⟩ : ∃ z : Nat, ub s (6 + n) = (z : Int) := ⟨(ub s (6 + n)).toNat, by omega⟩
      have hSL : S * L ≤ 255 * 255 := Nat.mul_le_mul (by omega) (by omega)
      have eS : ((((List.getD s (5 + n) 0 : UInt8).toNat : Nat)) : Int) = (S : Int) := hS
      have eL : ((((List.getD s (6 + n) 0 : UInt8).toNat : Nat)) : Int) = (L : Int) := hL
      have wS : IntKind.wrap .i64 (S : Int) = (S : Int) := i64_in _ (by omega)
      have wL : IntKind.wrap .i64 (L : Int) = (L : Int) := i64_in _ (by omega)
      have eSL : wmul .i64 (S : Int) (L : Int) = ((S * L : Nat) : Int) := by rw [wmulI (by rw [← Int.natCast_mul]; omega), Int.natCast_mul]
      have eE : wadd .i64 (wadd .i64 ((7 + n : Nat) : Int) ((S * L : Nat) : Int)) (S : Int) = ((7 + n + S * L + S : Nat) : Int) := by
        rw [waddI (a := ((7 + n : Nat) : Int)) (b := ((S * L : Nat) : Int)) (by omega), waddI (by omega)]; omega
      have eE2 : wadd .i64 ((7 + n + S * L + S : Nat) : Int) 2 = ((9 + n + S * L + S : Nat) : Int) := by rw [waddI (by omega)]; omega
      simp only [e7, cond_false, if_neg h7, guard_pos (show (0 : Int) ≤ (5 : Int) ∧ (5 : Int) ≤ ((5 + n : Nat) : Int) ∧ ((5 + n : Nat) : Int) ≤ lenI s from by simp only [lenI]; omega), guard_pos (idxN (i := 5 + n) (n := s.length) (by omega)), en1, guard_pos (idxN (i := 6 + n) (n := s.length) (by omega)), Int.toNat_natCast, eS, eL, wS, wL, eSL, Option.bind_some, eE, eE2, hS, hL]
      by_cases h9 : s.length < 9 + n + S * L + S
      · have : decide (((9 + n + S * L + S : Nat) : Int) > lenI s) = true := by simp only [lenI, decide_eq_true_eq]; omega
        simp only [this, cond_true, if_pos h9]; rfl
      · have e9 : decide (((9 + n + S * L + S : Nat) : Int) > lenI s) = false := by simp only [lenI, decide_eq_false_iff_not]; omega
        have hb := load_nx hs hn255 (N := S * L) (S := S) (by omega) (by omega) (by omega)
        have hb1 := load_es hs hn255 (N := S * L) (S := S) (by omega) (by omega) (by omega) hS
        have hnl : (cut s 5 ((5 + n : Nat) : Int)).length ≤ 1048576 := by unfold cut; simp; omega
        have hnx : (nxF s n (S * L)).length ≤ 1048576 := by simp [nxF]; omega
        have hes : (esF s n (S * L) S).length ≤ 1048576 := by simp [esF]; omega
        simp only [e9, cond_false, if_neg h9, hb, hb1, Option.bind_some, spec_kept (nm := cut s 5 ((5 + n : Nat) : Int)) (s := (S : Int)) (l := (L : Int)) (nx := nxF s n (S * L)) (es := esF s n (S * L) S) (by omega) (by omega), spec_store (s := (S : Int)) (l := (L : Int)) hnl hnx hes, guard_pos (show (0 : Int) ≤ ((9 + n + S * L + S : Nat) : Int) ∧ ((9 + n + S * L + S : Nat) : Int) ≤ lenI s from by simp only [lenI]; omega), cut0]
        cases hk : okKept (cut s 5 ((5 + n : Nat) : Int)) (S : Int) (L : Int) (nxF s n (S * L)) (esF s n (S * L) S) with
        | false => rfl
        | true =>
          by_cases hst : storeB (cut s 5 ((5 + n : Nat) : Int)) (S : Int) (L : Int) (nxF s n (S * L)) (esF s n (S * L) S) = s.take (9 + n + S * L + S)
          · have : (storeB (cut s 5 ((5 + n : Nat) : Int)) (S : Int) (L : Int) (nxF s n (S * L)) (esF s n (S * L) S) != s.take (9 + n + S * L + S)) = false := by rw [hst]; simp
            rw [this, if_pos ⟨rfl, hst⟩]; rfl
          · have : (storeB (cut s 5 ((5 + n : Nat) : Int)) (S : Int) (L : Int) (nxF s n (S * L)) (esF s n (S * L) S) != s.take (9 + n + S * L + S)) = true := by simpa using hst
            rw [this, if_neg (fun h => hst h.2)]; rfl

theorem hasPrefix_ok {s t : List UInt8} : strings_HasPrefix s t = some (decide (t = s.take t.length)) := by
  unfold strings_HasPrefix internal_stringslite_HasPrefix
  by_cases h : lenI s ≥ lenI t
  · have hd : decide (lenI s ≥ lenI t) = true := decide_eq_true h
    simp only [hd, cond_true, guard_pos (show (0 : Int) ≤ lenI t ∧ lenI t ≤ lenI s from ⟨by simp only [lenI]; omega, h⟩), Option.bind_some, cut0]
    congr 1
    rw [Bool.eq_iff_iff, beq_iff_eq, decide_eq_true_eq]
    exact ⟨fun e => e.symm, fun e => e.symm⟩
  · have : ¬ t = s.take t.length := fun e => by
      have := congrArg List.length e
      simp only [lenI] at h
      simp at this
      omega
    simp only [h, this, decide_false, cond_false, Option.bind_some]

theorem impl_read {s : List UInt8} (hs : s.length ≤ 1048576) : impl_readKept s = some (match loadF s with | some (k, e) => (k, ((e : Nat) : Int), true) | none => (zeroK, 0, false)) := by
  unfold impl_readKept loadF
  by_cases h5 : s.length < 5
  · have : decide (lenI s < (5 : Int)) = true := by simp only [lenI, decide_eq_true_eq]; omega
    rw [this, if_pos h5]; rfl
  · have e5 : decide (lenI s < (5 : Int)) = false := by simp only [lenI, decide_eq_false_iff_not]; omega
    have r4 := ub_range s 4
    have e4 : ((((List.getD s (Int.toNat (4 : Int)) 0 : UInt8).toNat : Nat)) : Int) = ub s 4 := rfl
    obtain ⟨n, hn⟩ : ∃ n : Nat, ub s 4 = (n : Int) := ⟨(ub s 4).toNat, by omega⟩
    have wn : IntKind.wrap .i64 (n : Int) = (n : Int) := i64_in _ (by omega)
    have en : wadd .i64 5 (n : Int) = ((5 + n : Nat) : Int) := by rw [waddI (by omega)]; omega
    have en7 : wadd .i64 7 (n : Int) = ((7 + n : Nat) : Int) := by rw [waddI (by omega)]; omega
    have en2 : wadd .i64 ((5 + n : Nat) : Int) 2 = ((7 + n : Nat) : Int) := by rw [waddI (by omega)]; omega
    have en1 : wadd .i64 ((5 + n : Nat) : Int) 1 = ((6 + n : Nat) : Int) := by rw [waddI (by omega)]; omega
    have hn255 : n ≤ 255 := by omega
    simp only [e5, cond_false, if_neg h5, e4, guard_pos (show (0 : Int) ≤ (4 : Int) ∧ (4 : Int) < lenI s from by simp only [lenI]; omega), hn, wn, en, en7, Option.bind_some, en2, Int.toNat_natCast]
    by_cases h7 : s.length < 7 + n
    · have : decide (lenI s < ((7 + n : Nat) : Int)) = true := by simp only [lenI, decide_eq_true_eq]; omega
      rw [this, if_pos h7]; rfl
    · have e7 : decide (lenI s < ((7 + n : Nat) : Int)) = false := by simp only [lenI, decide_eq_false_iff_not]; omega
      have rS := ub_range s (5 + n)
      have rL := ub_range s (6 + n)
      obtain ⟨S, hS⟩ : ∃ z : Nat, ub s (5 + n) = (z : Int) := ⟨(ub s (5 + n)).toNat, by omega⟩
      obtain ⟨L, hL⟩ : ∃ z : Nat, ub s (6 + n) = (z : Int) := ⟨(ub s (6 + n)).toNat, by omega⟩
      have hSL : S * L ≤ 255 * 255 := Nat.mul_le_mul (by omega) (by omega)
      have eS : ((((List.getD s (5 + n) 0 : UInt8).toNat : Nat)) : Int) = (S : Int) := hS
      have eL : ((((List.getD s (6 + n) 0 : UInt8).toNat : Nat)) : Int) = (L : Int) := hL
      have wS : IntKind.wrap .i64 (S : Int) = (S : Int) := i64_in _ (by omega)
      have wL : IntKind.wrap .i64 (L : Int) = (L : Int) := i64_in _ (by omega)
      have eSL : wmul .i64 (S : Int) (L : Int) = ((S * L : Nat) : Int) := by rw [wmulI (by rw [← Int.natCast_mul]; omega), Int.natCast_mul]
      have eE : wadd .i64 (wadd .i64 ((7 + n : Nat) : Int) ((S * L : Nat) : Int)) (S : Int) = ((7 + n + S * L + S : Nat) : Int) := by
        rw [waddI (a := ((7 + n : Nat) : Int)) (b := ((S * L : Nat) : Int)) (by omega), waddI (by omega)]; omega
      have eE2 : wadd .i64 ((7 + n + S * L + S : Nat) : Int) 2 = ((9 + n + S * L + S : Nat) : Int) := by rw [waddI (by omega)]; omega
      simp only [e7, cond_false, if_neg h7, guard_pos (show (0 : Int) ≤ (5 : Int) ∧ (5 : Int) ≤ ((5 + n : Nat) : Int) ∧ ((5 + n : Nat) : Int) ≤ lenI s from by simp only [lenI]; omega), guard_pos (idxN (i := 5 + n) (n := s.length) (by omega)), en1, guard_pos (idxN (i := 6 + n) (n := s.length) (by omega)), Int.toNat_natCast, eS, eL, wS, wL, eSL, Option.bind_some, eE, eE2, hS, hL]
      by_cases h9 : s.length < 9 + n + S * L + S
      · have : decide (lenI s < ((9 + n + S * L + S : Nat) : Int)) = true := by simp only [lenI, decide_eq_true_eq]; omega
        simp only [this, cond_true, if_pos h9]; rfl
      · have e9 : decide (lenI s < ((9 + n + S * L + S : Nat) : Int)) = false := by simp only [lenI, decide_eq_false_iff_not]; omega
        have hb : rounds (impl_readKept_B2 s ((5 + n : Nat) : Int) ((S * L : Nat) : Int)) ((0 : Int), ([] : List Int)) = _ := load_nx hs hn255 (N := S * L) (S := S) (by omega) (by omega) (by omega)
        have hb1 : rounds (impl_readKept_B1 s ((5 + n : Nat) : Int) ((S * L : Nat) : Int)) ((0 : Int), ([] : List Bool)) = _ := load_es hs hn255 (N := S * L) (S := S) (by omega) (by omega) (by omega) hS
        have hnl : (cut s 5 ((5 + n : Nat) : Int)).length ≤ 1048576 := by unfold cut; simp; omega
        have hnl2 : (cut s 5 ((5 + n : Nat) : Int)).length = n := by unfold cut; simp; omega
        have hnx : (nxF s n (S * L)).length ≤ 1048576 := by simp [nxF]; omega
        have hes : (esF s n (S * L) S).length ≤ 1048576 := by simp [esF]; omega
        have hlen := storeB_len (cut s 5 ((5 + n : Nat) : Int)) (S : Int) (L : Int) (nxF s n (S * L)) (esF s n (S * L) S)
        have hlen : (storeB (cut s 5 ((5 + n : Nat) : Int)) (S : Int) (L : Int) (nxF s n (S * L)) (esF s n (S * L) S)).length = 9 + n + S * L + S := by
          rw [hlen, hnl2]; simp [nxF, esF]; omega
        simp only [e9, cond_false, if_neg h9, hb, hb1, Option.bind_some, impl_store (s := (S : Int)) (l := (L : Int)) hnl hnx hes]
        cases hk : okKept (cut s 5 ((5 + n : Nat) : Int)) (S : Int) (L : Int) (nxF s n (S * L)) (esF s n (S * L) S) with
        | false => rfl
        | true =>
          simp only [if_true, Bool.not_true, cond_false, hasPrefix_ok, hlen, Option.bind_some]
          by_cases hst : storeB (cut s 5 ((5 + n : Nat) : Int)) (S : Int) (L : Int) (nxF s n (S * L)) (esF s n (S * L) S) = s.take (9 + n + S * L + S)
          · simp only [hst, decide_true, Bool.not_true, cond_false, true_and, if_true]
          · simp only [hst, decide_false, Bool.not_false, cond_true, true_and, if_false]; rfl

theorem loadF_len {s : List UInt8} {k : KeptD} {e : Nat} (h : loadF s = some (k, e)) : 9 ≤ e ∧ k.1.length ≤ 8 ∧ k.2.2.2.1.length ≤ 256 ∧ k.2.2.2.2.length ≤ 64 := by
  unfold loadF at h
  split at h
  · cases h
  · split at h
    · cases h
    · split at h
      · cases h
      · split at h
        · rename_i hok
          injection h with h
          injection h with h1 h2
          have := okKept_len hok.1
          subst h1
          exact ⟨by omega, this⟩
        · cases h

end Go.Proofs


/-
  RecoverKepts: its marks, too.
-/
namespace Go.Proofs
open Go.Ide Go.IntWalk

theorem loadF_le {s : List UInt8} {k : KeptD} {e : Nat} (h : loadF s = some (k, e)) : e ≤ s.length := by
  unfold loadF at h
  split at h
  · cases h
  · split at h
    · cases h
    · split at h
      · cases h
      · split at h
        · injection h with h
          injection h with _ h2
          omega
        · cases h

def smallK (k : KeptD) : Prop := k.1.length ≤ 8 ∧ k.2.2.2.1.length ≤ 256 ∧ k.2.2.2.2.length ≤ 64

theorem RecoverKepts_eq {x0_0 : List UInt8} (h : x0_0.length ≤ 1048576) : ∃ r, spec_RecoverKepts x0_0 = some r ∧ impl_RecoverKepts x0_0 = some r ∧ r.1.length ≤ 8 ∧ ∀ k ∈ r.1, smallK k := by
  obtain ⟨r, r', h1, h2, h3⟩ := rounds_rel (f := spec_RecoverKepts_B1 x0_0) (g := impl_RecoverKepts_B1 x0_0) (fun n s t => ∃ (at_ : Nat) (out : List KeptD), n + out.length = 8 ∧ s = ((at_ : Int), out) ∧ t = ((at_ : Int), out) ∧ at_ ≤ x0_0.length ∧ ∀ k ∈ out, smallK k)
    (fun r r' => r = r' ∧ r.2.length ≤ 8 ∧ ∀ k ∈ r.2, smallK k) (by
    rintro n s t ⟨at_, out, hn, rfl, rfl, hat, hsm⟩
    by_cases hl : out.length < 8
    · have hd : decide (lenI out < (8 : Int)) = true := by simp only [lenI, decide_eq_true_eq]; omega
      have hcut : cut x0_0 (at_ : Int) (lenI x0_0) = x0_0.drop at_ := by
        unfold cut
        simp only [lenI, Int.toNat_natCast]
        rw [List.take_of_length_le (by simp)]
      have hdl : (x0_0.drop at_).length ≤ 1048576 := by simp; omega
      have jat : (0 : Int) ≤ (at_ : Int) ∧ (at_ : Int) ≤ lenI x0_0 := by simp only [lenI]; omega
      unfold spec_RecoverKepts_B1 impl_RecoverKepts_B1
      simp only [hd, cond_true, guard_pos jat, hcut, spec_begin hdl, impl_read hdl, Option.bind_some]
      cases hld : loadF (x0_0.drop at_) with
      | none => exact .inr ⟨_, _, rfl, rfl, rfl, by simp only; omega, hsm⟩
      | some p =>
        obtain ⟨⟨a, b, c, d, f⟩, e⟩ := p
        obtain ⟨l1, l2, l3, l4⟩ := loadF_len hld
        have hle := loadF_le hld
        have z : (((e : Nat) : Int) == 0) = false := by simp; omega
        have hg : List.length out + List.length ([(a, b, c, d, f)] : List KeptD) ≤ appMax := by simp only [List.length_singleton, appMax]; omega
        have e1 : wadd .i64 (at_ : Int) (e : Int) = ((at_ + e : Nat) : Int) := by
          simp only [List.length_drop] at hle
          rw [waddI (by omega)]; omega
        simp only [z, cond_false, Bool.not_true, Option.bind_some, e1, guard_pos hg]
        refine .inl ⟨n - 1, _, _, by omega, rfl, rfl, at_ + e, out ++ [(a, b, c, d, f)], by simp; omega, rfl, rfl, by simp only [List.length_drop] at hle; omega, fun k hk => ?_⟩
        rcases List.mem_append.1 hk with hk | hk
        · exact hsm k hk
        · simp only [List.mem_singleton] at hk
          subst hk
          exact ⟨l2, l3, l4⟩
    · have hd : decide (lenI out < (8 : Int)) = false := by simp only [lenI, decide_eq_false_iff_not]; omega
      unfold spec_RecoverKepts_B1 impl_RecoverKepts_B1
      simp only [hd, cond_false]
      exact .inr ⟨_, _, rfl, rfl, rfl, by simp only; omega, hsm⟩) 8 ((0 : Int), []) ((0 : Int), []) ⟨0, [], by simp, rfl, rfl, by omega, by simp⟩
  obtain ⟨rfl, h4, h5⟩ := h3
  unfold spec_RecoverKepts impl_RecoverKepts
  have h1 : rounds (spec_RecoverKepts_B1 x0_0) ((0 : Int), ([] : List KeptD)) = some r := h1
  have h2 : rounds (impl_RecoverKepts_B1 x0_0) ((0 : Int), ([] : List KeptD)) = some r := h2
  rw [h1, h2]
  exact ⟨_, rfl, rfl, h4, h5⟩

noncomputable def mt (k : Int) : List UInt8 := (laws_markText k).getD []

theorem mt_ok {k : Int} (hk : 0 ≤ k ∧ k ≤ 10000000000000) : laws_markText k = some (mt k) := by
  have : ∃ r, laws_markText k = some r := by
    unfold laws_markText
    by_cases h0 : k ≤ 0
    · simp only [h0, decide_true, cond_true]; exact ⟨_, rfl⟩
    · simp only [h0, decide_false, cond_false]
      obtain ⟨r, h1, h2⟩ := rounds_inv (f := laws_markText_B1) (fun n (s : Int × List UInt8) => 0 ≤ s.1 ∧ s.1 < ((10 ^ n : Nat) : Int) ∧ s.2.length + n ≤ 20 ∧ n ≤ 18) (fun r => r.length ≤ 20) (by
        rintro n ⟨v, out⟩ ⟨q1, q2, q3, q4⟩
        have q1 : 0 ≤ v := q1
        have q2 : v < ((10 ^ n : Nat) : Int) := q2
        have q3 : out.length + n ≤ 20 := q3
        by_cases hv : v > 0
        · cases n with
          | zero => simp at q2; omega
          | succ n =>
            have hb : v < 1000000000000000000 := by
              have : (10 ^ (n + 1) : Nat) ≤ 10 ^ 18 := Nat.pow_le_pow_right (by omega) q4
              omega
            have hdiv : Int.tdiv v 10 = v / 10 := by rw [Int.tdiv_eq_ediv_of_nonneg q1]
            have hw : IntKind.wrap .i64 (v / 10) = v / 10 := i64_in _ (by omega)
            refine .inl ⟨n, (v / 10, bytesO ([(IntKind.wrap .u8 (wadd .i64 (48 : Int) (Int.tmod v (10 : Int))))] : List Int) ++ out), by omega, ?_, by show 0 ≤ v / 10; omega, ?_, ?_, by omega⟩
            · unfold laws_markText_B1
              simp only [hv, decide_true, cond_true]
              rw [guard_pos (by rw [bytesO_len]; simp only [List.length_singleton, appMax]; omega)]
              simp only [Option.bind_some, hdiv, hw]
            · show v / 10 < ((10 ^ n : Nat) : Int)
              rw [Nat.pow_succ] at q2
              omega
            · show (bytesO _ ++ out).length + n ≤ 20
              rw [List.length_append, bytesO_len]
              simp only [List.length_singleton]; omega
        · refine .inr ⟨out, ?_, by show out.length ≤ 20; omega⟩
          unfold laws_markText_B1
          simp only [hv, decide_false, cond_false]) 14 (k, []) ⟨hk.1, by
        have h14 : (10 ^ 14 : Nat) = 100000000000000 := by decide
        show k < ((10 ^ 14 : Nat) : Int)
        omega, by simp, by omega⟩
      rw [h1]
      simp only [Option.bind_some]
      rw [guard_pos (by simp only [List.length_singleton, appMax]; omega)]
      exact ⟨_, rfl⟩
  obtain ⟨r, hr⟩ := this
  unfold mt
  rw [hr]; rfl

noncomputable def keptE (k : Int) (x : KeptD) : Int × KeptD :=
  (k + 3 + ((1 * x.2.2.2.1.length : Nat) : Int) + ((1 * x.2.2.2.2.length : Nat) : Int),
    (mt k, k + 1, k + 2, marksG (fun k => k) 1 (k + 3) x.2.2.2.1.length, marksG (fun k => (Int.tmod k (3 : Int) == (0 : Int))) 1 (k + 3 + ((1 * x.2.2.2.1.length : Nat) : Int)) x.2.2.2.2.length))

theorem keptE_bd {x : KeptD} (h : smallK x) (k : Int) : k ≤ (keptE k x).1 ∧ (keptE k x).1 ≤ k + ((1000 : Nat) : Int) := by
  obtain ⟨_, h2, h3⟩ := h
  unfold keptE
  simp only
  omega

abbrev dK : KeptD := (([] : List UInt8), (0 : Int), (0 : Int), ([] : List Int), ([] : List Bool))

theorem markKeptS_ok {xs : List KeptD} (h : xs.length ≤ 8) (hs : ∀ x ∈ xs, smallK x) : laws_markKeptS xs 1 = some (markRows keptE 1 xs) := by
  have := loop_markE (f := laws_markKeptS_B1) keptE 1000 1 xs dK (fun k x hx => keptE_bd (hs x hx) k) (fun k i out hi hl hg h1 h2 => by
    obtain ⟨b1, b2, b3⟩ := hs _ (mem_getD hi dK)
    have e0 : wadd .i64 k 1 = k + 1 := waddI (by omega)
    have e1 : wadd .i64 (k + 1) 1 = k + 2 := by rw [waddI (by omega)]; omega
    have e2 : wadd .i64 (k + 2) 1 = k + 3 := by rw [waddI (by omega)]; omega
    have hio : i < out.length := by omega
    unfold laws_markKeptS_B1
    simp only [lenI, hl, ltN hi, cond_true, mt_ok (k := k) (by omega), Option.bind_some, guard_pos (idxN hi), Int.toNat_natCast, List.length_set, e0, e1, e2, getD_set_self hio, List.set_set, nextN hi (show xs.length ≤ 4294967296 by omega)]
    rw [hg]
    rw [markInt64S_ok (k := k + 3) (by omega) (by omega)]
    simp only [Option.bind_some]
    rw [markBoolS_ok (by omega) (by omega)]
    rfl) (fun k out hl => by
    unfold laws_markKeptS_B1
    simp only [lenI, hl, geN (Nat.le_refl _), cond_false])
  have hml := markRows_len keptE xs 1
  unfold laws_markKeptS
  rw [this]
  simp only [Option.bind_some]
  rw [guard_pos]
  refine ⟨hml.symm, fun i o e ys' hsl => ?_⟩
  by_cases hi : i < xs.length
  · have hat := markRows_at keptE (xs := xs) (k := 1) dK i hi
    have hat : (markRows keptE 1 xs).2.getD i (Ty.dflt (.st (.pair .str (.st (.pair tI (.pair tI (.pair (.own tI) (.own .bool)))))))) = _ := hat
    rw [hat] at hsl
    match o, hsl with
    | 0, hsl => cases hsl
    | 1, hsl => cases hsl
    | 2, hsl => cases hsl
    | 3, hsl =>
      injection hsl with hsl
      injection hsl with h1 h2
      subst h1
      have h2 := eq_of_heq h2
      subst h2
      exact ⟨_, rfl, by simp [keptE, marksG]; rfl⟩
    | 4, hsl =>
      injection hsl with hsl
      injection hsl with h1 h2
      subst h1
      have h2 := eq_of_heq h2
      subst h2
      exact ⟨_, rfl, by simp [keptE, marksG]; rfl⟩
    | o + 5, hsl => cases hsl
  · have e1 : (markRows keptE 1 xs).2.getD i (Ty.dflt (.st (.pair .str (.st (.pair tI (.pair tI (.pair (.own tI) (.own .bool)))))))) = dK := by
      rw [List.getD_eq_getElem?_getD, List.getElem?_eq_none (by omega)]; rfl
    have e2 : xs.getD i (Ty.dflt (.st (.pair .str (.st (.pair tI (.pair tI (.pair (.own tI) (.own .bool)))))))) = dK := by
      rw [List.getD_eq_getElem?_getD, List.getElem?_eq_none (by omega)]; rfl
    rw [e1] at hsl
    exact ⟨ys', by rw [e2]; exact hsl, rfl⟩

theorem heldKeptS_ok {xs : List KeptD} (h : xs.length ≤ 8) (hs : ∀ x ∈ xs, smallK x) : laws_heldKeptS (markRows keptE 1 xs).2 1 = some (markRows keptE 1 xs).1 := by
  have hml := markRows_len keptE xs 1
  have := loop_heldE (f := laws_heldKeptS_B1 (markRows keptE 1 xs).2) keptE 1 xs dK (fun i hi => by
    obtain ⟨b1, b2, b3⟩ := hs _ (mem_getD hi dK)
    have hat := markRows_at keptE (xs := xs) (k := 1) dK i hi
    have hbd := markRows_bd (E := keptE) (M := 1000) (xs := xs.take i) (k := 1) fun k x hx => keptE_bd (hs x (List.mem_of_mem_take hx)) k
    have htl : (xs.take i).length ≤ 8 := by simp; omega
    generalize (markRows keptE 1 (xs.take i)).1 = k at hat hbd
    have hk : 0 ≤ k ∧ k ≤ 1000000 := by
      have : (xs.take i).length * 1000 ≤ 8 * 1000 := Nat.mul_le_mul_right _ htl
      omega
    have e0 : wadd .i64 k 1 = k + 1 := waddI (by omega)
    have e1 : wadd .i64 (k + 1) 1 = k + 2 := by rw [waddI (by omega)]; omega
    have e2 : wadd .i64 (k + 2) 1 = k + 3 := by rw [waddI (by omega)]; omega
    unfold laws_heldKeptS_B1
    simp only [lenI, hml, ltN hi, cond_true, guard_pos (idxN hi), Int.toNat_natCast, mt_ok (k := k) (by omega), Option.bind_some, e0, e1, e2, hat, nextN hi (show xs.length ≤ 4294967296 by omega)]
    unfold keptE
    simp only [bne_self_eq_false, cond_false]
    rw [heldInt64S_ok (by omega) (by omega)]
    simp only [Option.bind_some]
    rw [show decide (k + 3 + ((1 * (xs.getD i dK).2.2.2.1.length : Nat) : Int) < 0) = false from by simp only [decide_eq_false_iff_not]; omega]
    simp only [cond_false]
    rw [heldBoolS_ok (by omega) (by omega)]
    simp only [Option.bind_some]
    rw [show decide (k + 3 + ((1 * (xs.getD i dK).2.2.2.1.length : Nat) : Int) + ((1 * (xs.getD i dK).2.2.2.2.length : Nat) : Int) < 0) = false from by simp only [decide_eq_false_iff_not]; omega]
    rfl) (fun k => by
    unfold laws_heldKeptS_B1
    simp only [lenI, hml, geN (Nat.le_refl _), cond_false])
  unfold laws_heldKeptS
  rw [this]
  rfl

theorem RecoverKepts_law (x0 : List UInt8) (_ : WfD .str x0) : laws_FnExactRecoverKepts x0 = some true := by
  unfold laws_FnExactRecoverKepts
  by_cases c1 : lenI x0 > (1048576 : Int)
  · simp only [c1, decide_true, cond_true]
  · simp only [c1, decide_false, cond_false]
    obtain ⟨⟨r1, r2, r3⟩, k1, k2, hl, hs⟩ := RecoverKepts_eq (x0_0 := x0) (by simp only [lenI] at c1; omega)
    have hl : r1.length ≤ 8 := hl
    have hs : ∀ x ∈ r1, smallK x := hs
    have he : laws_eqKeptS r1 r1 = some true := eqKeptS_ok ⟨by omega, fun y hy => by obtain ⟨a, b, c⟩ := hs y hy; exact ⟨by omega, by omega, by omega⟩⟩
    have hbd := markRows_bd (E := keptE) (M := 1000) (xs := r1) (k := 1) fun k x hx => keptE_bd (hs x hx) k
    simp only [k1, k2, Option.bind_some, he, Bool.not_true, bne_self_eq_false, cond_false, markKeptS_ok hl hs, heldKeptS_ok hl hs, show decide ((markRows keptE 1 r1).1 < 0) = false from by simp only [decide_eq_false_iff_not]; omega]

end Go.Proofs
