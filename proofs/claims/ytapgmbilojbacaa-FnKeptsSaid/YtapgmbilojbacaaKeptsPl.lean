import Derived.Test.YtapgmbilojbacaaKeptsGenA
set_option linter.unusedVariables false
set_option linter.unusedSimpArgs false
set_option linter.unusedSectionVars false

namespace Go.Proofs
open Go.Ide Go.IntWalk


end Go.Proofs


namespace Go.Proofs
open Go.Ide Go.IntWalk

theorem within64 (a b c : Int) : impl_within a b c = some (decide (a ≥ b) && decide (a ≤ c)) := by
  unfold impl_within
  cases h : decide (a ≥ b) <;> simp

def allIn (xs : List Int) (b c : Int) : Bool := xs.all fun x => decide (x ≥ b) && decide (x ≤ c)

theorem allIn_iff {xs : List Int} {b c : Int} : allIn xs b c = true ↔ ∀ i, i < xs.length → b ≤ xs.getD i 0 ∧ xs.getD i 0 ≤ c := by
  unfold allIn
  rw [List.all_eq_true]
  constructor
  · intro h i hi
    have := h xs[i] (List.getElem_mem hi)
    simp only [Bool.and_eq_true, decide_eq_true_eq] at this
    rw [List.getD_eq_getElem?_getD, List.getElem?_eq_getElem hi]
    exact ⟨this.1, this.2⟩
  · intro h x hx
    obtain ⟨i, hi, rfl⟩ := List.getElem_of_mem hx
    have := h i hi
    rw [List.getD_eq_getElem?_getD, List.getElem?_eq_getElem hi] at this
    simp only [Bool.and_eq_true, decide_eq_true_eq]
    exact ⟨this.1, this.2⟩

theorem allN_in (xs : List Int) (b c : Int) : allN (fun i => decide (xs.getD i 0 ≥ b) && decide (xs.getD i 0 ≤ c)) xs.length 0 = allIn xs b c := by
  rw [Bool.eq_iff_iff, allN_iff, allIn_iff]
  constructor
  · intro h i hi
    have := h i (by omega) (by omega)
    simp only [Bool.and_eq_true, decide_eq_true_eq] at this
    exact ⟨this.1, this.2⟩
  · intro h i _ hi
    have := h i (by omega)
    simp only [Bool.and_eq_true, decide_eq_true_eq]
    exact ⟨this.1, this.2⟩

theorem areWithin64 {xs : List Int} {b c : Int} (h : xs.length ≤ 4294967296) : impl_areWithin xs b c = some (allIn xs b c) := by
  unfold impl_areWithin
  have := rounds_all (f := impl_areWithin_B1 xs b c) (fun i => ((i : Nat) : Int)) (fun i => decide (xs.getD i 0 ≥ b) && decide (xs.getD i 0 ≤ c)) (Sum.inl ()) (Sum.inr ()) (n := xs.length) (fun i hi => by
    unfold impl_areWithin_B1
    simp only [ltN hi, cond_true, guard_pos (idxN hi), Int.toNat_natCast, within64, Option.bind_some, nextN hi h]
    cases (decide (xs.getD i 0 ≥ b) && decide (xs.getD i 0 ≤ c)) <;> rfl) (by
    unfold impl_areWithin_B1
    simp only [geN (Nat.le_refl _), cond_false]) xs.length 0 (by omega)
  rw [allN_in] at this
  simp only [Int.natCast_zero] at this
  simp only [this, Option.bind_some]
  cases allIn xs b c <;> rfl

def okPlain (s l : Int) (nx : List Int) (es : List Bool) : Bool :=
  (decide (s ≥ 1) && decide (s ≤ 64)) && ((decide (l ≥ 1) && decide (l ≤ 4)) && ((lenI nx == wmul .i64 s l) && ((lenI es == s) && allIn nx 0 (wsub .i64 s 1))))

theorem implPlain {s l : Int} {nx : List Int} {es : List Bool} (h : nx.length ≤ 4294967296) : impl_ValidPlain (s, l, nx, es) = some (okPlain s l nx es) := by
  unfold impl_ValidPlain okPlain
  simp only [within64, areWithin64 h, Option.bind_some]
  cases (decide (s ≥ 1) && decide (s ≤ 64)) <;> cases (decide (l ≥ 1) && decide (l ≤ 4)) <;> cases (lenI nx == wmul .i64 s l) <;> cases (lenI es == s) <;> cases allIn nx 0 (wsub .i64 s 1) <;> rfl

theorem okPlain_spec {s l : Int} {nx : List Int} {es : List Bool} (h : okPlain s l nx es = true) : ∃ m c : Nat, s = (m : Int) ∧ l = (c : Int) ∧ 1 ≤ m ∧ m ≤ 64 ∧ 1 ≤ c ∧ c ≤ 4 ∧ nx.length = m * c ∧ es.length = m ∧ ∀ i, i < m * c → ∃ t : Nat, nx.getD i 0 = (t : Int) ∧ t < m := by
  unfold okPlain at h
  simp only [Bool.and_eq_true, decide_eq_true_eq, beq_iff_eq] at h
  obtain ⟨⟨h1, h2⟩, ⟨h3, h4⟩, h5, h6, h7⟩ := h
  obtain ⟨m, rfl⟩ : ∃ n : Nat, s = (n : Int) := ⟨s.toNat, by omega⟩
  obtain ⟨c, rfl⟩ : ∃ n : Nat, l = (n : Int) := ⟨l.toNat, by omega⟩
  have hmc : m * c ≤ 64 * 4 := Nat.mul_le_mul (by omega) (by omega)
  rw [wmulI (by rw [← Int.natCast_mul]; omega), ← Int.natCast_mul] at h5
  have hl : nx.length = m * c := by simp only [lenI] at h5; omega
  refine ⟨m, c, rfl, rfl, by omega, by omega, by omega, by omega, hl, by simp only [lenI] at h6; omega, fun i hi => ?_⟩
  have := allIn_iff.1 h7 i (by omega)
  rw [wsubI (by omega)] at this
  exact ⟨(nx.getD i 0).toNat, by omega, by omega⟩

structure Plain (m c : Nat) (nx : List Int) (es : List Bool) : Prop where
  m1 : 1 ≤ m
  m2 : m ≤ 64
  c1 : 1 ≤ c
  c2 : c ≤ 4
  len : nx.length = m * c
  ends : es.length = m
  to : ∀ i, i < m * c → ∃ t : Nat, nx.getD i 0 = (t : Int) ∧ t < m

section
variable {m c : Nat} {nx : List Int} {es : List Bool} (hp : Plain m c nx es)
include hp

end

end Go.Proofs


namespace Go.Proofs
open Go.Ide Go.IntWalk

def okName (s : List UInt8) : Bool := allN (fun i => !(decide (ub s i < 97) || decide (ub s i > 122))) s.length 0 && (decide (lenI s ≥ 1) && decide (lenI s ≤ 8))

theorem impl_name {s : List UInt8} (h : s.length ≤ 4294967296) : impl_IsName s = some (okName s) := by
  unfold impl_IsName okName
  have := rounds_all (f := impl_IsName_B1 s) (fun i => ((i : Nat) : Int)) (fun i => !(decide (ub s i < 97) || decide (ub s i > 122))) (Sum.inl ()) (Sum.inr ()) (n := s.length) (fun i hi => by
    unfold impl_IsName_B1
    have e : ((((List.getD s i 0 : UInt8).toNat : Nat)) : Int) = ub s i := rfl
    simp only [ltN hi, cond_true, guard_pos (idxN hi), Int.toNat_natCast, nextN hi h, e]
    cases decide (ub s i < 97) <;> cases decide (ub s i > 122) <;> rfl) (by
    unfold impl_IsName_B1
    simp only [geN (Nat.le_refl _), cond_false]) s.length 0 (by omega)
  simp only [Int.natCast_zero] at this
  simp only [this, Option.bind_some]
  cases allN (fun i => !(decide (ub s i < 97) || decide (ub s i > 122))) s.length 0 <;> cases decide (lenI s ≥ 1) <;> cases decide (lenI s ≤ 8) <;> rfl

def chkS (s : List UInt8) (i : Nat) (n : Int) : Int := Int.tmod (wadd .i64 (wadd .i64 (wmul .i64 919 n) (IntKind.wrap .i64 (ub s i))) 191) 65003
def chk (s : List UInt8) : Int := forS (chkS s) s.length 0 0

theorem chkS_range {s : List UInt8} {i : Nat} {n : Int} (h : 0 ≤ n ∧ n ≤ 65002) : 0 ≤ chkS s i n ∧ chkS s i n ≤ 65002 := by
  have hu := ub_range s i
  unfold chkS
  rw [ub_wrap, wmulI (by omega), waddI (a := 919 * n) (b := ub s i) (by omega), waddI (by omega)]
  have h1 : 0 ≤ 919 * n + ub s i + 191 := by omega
  have h2 := Int.tmod_nonneg 65003 h1
  have h3 := Int.tmod_lt_of_pos (919 * n + ub s i + 191) (show (0 : Int) < 65003 by decide)
  omega

theorem impl_check {s : List UInt8} (h : s.length ≤ 4294967296) : impl_CheckOf 0 s = some (chk s, true) ∧ 0 ≤ chk s ∧ chk s ≤ 65002 := by
  have := rounds_forS (f := impl_CheckOf_B1 s) (fun i n => (n, ((i : Nat) : Int))) (chkS s) id (n := s.length) (fun i n => 0 ≤ n ∧ n ≤ 65002) (fun i n hi hn => ⟨by
    unfold impl_CheckOf_B1
    have e : ((((List.getD s i 0 : UInt8).toNat : Nat)) : Int) = ub s i := rfl
    simp only [ltN hi, cond_true, guard_pos (idxN hi), Int.toNat_natCast, nextN hi h, e]
    rfl, chkS_range hn⟩) (fun n _ => by
    unfold impl_CheckOf_B1
    simp only [geN (Nat.le_refl _), cond_false]; rfl) s.length 0 0 (by omega) (by omega)
  simp only [Int.natCast_zero] at this
  refine ⟨?_, this.2⟩
  unfold impl_CheckOf
  simp only [within64, Option.bind_some, this.1]
  rfl

def okKept (nm : List UInt8) (s l : Int) (nx : List Int) (es : List Bool) : Bool := okName nm && okPlain s l nx es

section
variable {nm : List UInt8} {s l : Int} {nx : List Int} {es : List Bool} (hn : nm.length ≤ 4294967296) (hx : nx.length ≤ 4294967296)
include hn hx

theorem impl_kept : impl_ValidKept (nm, s, l, nx, es) = some (okKept nm s l nx es) := by
  unfold impl_ValidKept okKept
  simp only [impl_name hn, implPlain hx, Option.bind_some]
  cases okName nm <;> rfl
end

def storeHd (nm : List UInt8) (s l : Int) : List Int := (([65, 85, 84, 49] ++ [IntKind.wrap .u8 (lenI nm)]) ++ bytesI nm) ++ [IntKind.wrap .u8 s, IntKind.wrap .u8 l]
def storeBody (nm : List UInt8) (s l : Int) (nx : List Int) (es : List Bool) : List Int :=
  (storeHd nm s l ++ (List.range nx.length).map fun i => IntKind.wrap .u8 (nx.getD i 0)) ++ (List.range es.length).map fun i => if es.getD i false then 1 else 0
def storeB (nm : List UInt8) (s l : Int) (nx : List Int) (es : List Bool) : List UInt8 :=
  bytesO (storeBody nm s l nx es ++ [IntKind.wrap .u8 (chk (bytesO (storeBody nm s l nx es))), IntKind.wrap .u8 (chk (bytesO (storeBody nm s l nx es)) / 256)])

theorem storeHd_len (nm : List UInt8) (s l : Int) : (storeHd nm s l).length = nm.length + 7 := by
  unfold storeHd
  simp only [List.length_append, List.length_cons, List.length_nil, bytesI_len]
  omega
theorem storeBody_len (nm : List UInt8) (s l : Int) (nx : List Int) (es : List Bool) : (storeBody nm s l nx es).length = nm.length + 7 + nx.length + es.length := by
  unfold storeBody
  simp only [List.length_append, storeHd_len, List.length_map, List.length_range]
theorem storeB_len (nm : List UInt8) (s l : Int) (nx : List Int) (es : List Bool) : (storeB nm s l nx es).length = nm.length + 9 + nx.length + es.length := by
  unfold storeB
  simp only [bytesO_len, List.length_append, storeBody_len, List.length_cons, List.length_nil]
  omega

theorem okKept_len {nm : List UInt8} {s l : Int} {nx : List Int} {es : List Bool} (h : okKept nm s l nx es = true) : nm.length ≤ 8 ∧ nx.length ≤ 256 ∧ es.length ≤ 64 := by
  unfold okKept okName at h
  simp only [Bool.and_eq_true, decide_eq_true_eq, lenI] at h
  obtain ⟨⟨_, h1, h2⟩, h3⟩ := h
  obtain ⟨m, c, rfl, rfl, a1, a2, a3, a4, a5, a6, _⟩ := okPlain_spec h3
  have : m * c ≤ 64 * 4 := Nat.mul_le_mul a2 a4
  omega

section
variable {nm : List UInt8} {s l : Int} {nx : List Int} {es : List Bool} (hn : nm.length ≤ 1048576) (hx : nx.length ≤ 1048576) (he : es.length ≤ 1048576)
include hn hx he

theorem impl_store : impl_StoreKept (nm, s, l, nx, es) = some (if okKept nm s l nx es then (storeB nm s l nx es, true) else ([], false)) := by
  have hd := storeHd_len nm s l
  have hb := storeBody_len nm s l nx es
  unfold impl_StoreKept
  simp only [impl_kept (s := s) (l := l) (nx := nx) (es := es) (nm := nm) (by omega) (by omega), Option.bind_some]
  cases hok : okKept nm s l nx es with
  | false => rfl
  | true =>
    have e2 := loop_app (f := impl_StoreKept_B2 (nm, s, l, nx, es)) (fun i => IntKind.wrap .u8 (nx.getD i 0)) nx.length (storeHd nm s l) (fun i out hi ho => by
      unfold impl_StoreKept_B2
      simp only [ltN hi, cond_true, guard_pos (idxN hi), Int.toNat_natCast, nextN hi (by omega)]
      rw [guard_pos (appOK (by simp only [List.length_cons, List.length_nil]; omega))]) (fun out => by
      unfold impl_StoreKept_B2
      simp only [geN (Nat.le_refl _), cond_false])
    have e1 := loop_app (f := impl_StoreKept_B1 (nm, s, l, nx, es)) (fun i => if es.getD i false then (1 : Int) else 0) es.length (storeHd nm s l ++ (List.range nx.length).map fun i => IntKind.wrap .u8 (nx.getD i 0)) (fun i out hi ho => by
      unfold impl_StoreKept_B1
      have hl : out.length = nm.length + 7 + nx.length + i := by rw [ho]; simp only [List.length_append, hd, List.length_map, List.length_range]
      have g : ∀ v : Int, List.length out + List.length ([v] : List Int) ≤ appMax := fun v => appOK (by simp only [List.length_cons, List.length_nil]; omega)
      simp only [ltN hi, cond_true, guard_pos (idxN hi), Int.toNat_natCast, nextN hi (by omega)]
      cases es.getD i false with
      | true => simp only [cond_true, if_true, Option.bind_some, guard_pos (g 1)]
      | false => simp only [cond_false, Bool.false_eq_true, if_false, Option.bind_some, guard_pos (g 0)]) (fun out => by
      unfold impl_StoreKept_B1
      simp only [geN (Nat.le_refl _), cond_false])
    have hc := impl_check (s := bytesO (storeBody nm s l nx es)) (by rw [bytesO_len]; omega)
    have e2' : rounds (impl_StoreKept_B2 (nm, s, l, nx, es)) ((0 : Int), (((([(65 : Int), (85 : Int), (84 : Int), (49 : Int)] : List Int) ++ ([(IntKind.wrap .u8 (lenI nm))] : List Int)) ++ bytesI nm) ++ ([(IntKind.wrap .u8 s), (IntKind.wrap .u8 l)] : List Int))) = _ := e2
    have e1' : rounds (impl_StoreKept_B1 (nm, s, l, nx, es)) ((0 : Int), storeHd nm s l ++ (List.range nx.length).map fun i => IntKind.wrap .u8 (nx.getD i 0)) = some (storeBody nm s l nx es) := e1
    simp only [Bool.not_true, cond_false, if_true, Option.bind_some]
    rw [guard_pos (appOK (by simp only [List.length_cons, List.length_nil]; omega)), guard_pos (appOK (by simp only [List.length_append, List.length_cons, List.length_nil]; omega)), guard_pos (appOK (by simp only [List.length_append, List.length_cons, List.length_nil, bytesI_len]; omega))]
    simp only [e2', Option.bind_some, e1', hc.1]
    obtain ⟨_, k0, k1⟩ := hc
    have m2 : ∀ k : Int, Int.fdiv k (2 ^ (min (Int.toNat (8 : Int)) (IntKind.bits .i64))) = k / 256 := fun k => by
      have e : (2 : Int) ^ (min (Int.toNat (8 : Int)) (IntKind.bits .i64)) = 256 := by decide
      rw [e, Int.fdiv_eq_ediv_of_nonneg _ (by decide)]
    rw [guard_pos (appOK (by simp only [List.length_cons, List.length_nil]; omega)), m2]
    rfl
end

end Go.Proofs


namespace Go.Proofs
open Go.Ide Go.IntWalk

def nxF (s : List UInt8) (n N : Nat) : List Int := (List.range N).map fun i => ub s (7 + n + i)
def esF (s : List UInt8) (n N S : Nat) : List Bool := (List.range S).map fun i => (ub s (7 + n + N + i) == 1)

section
variable {s : List UInt8} {n N S : Nat} (hs : s.length ≤ 1048576) (hn : n ≤ 255) (hN : N ≤ 65025) (hS : S ≤ 255)
include hs hn hN hS

end

abbrev KeptD := List UInt8 × Int × Int × List Int × List Bool
def zeroK : KeptD := ([], 0, 0, [], [])

def loadF (s : List UInt8) : Option (KeptD × Nat) :=
  if s.length < 5 then none else
  if s.length < 7 + (ub s 4).toNat then none else
  if s.length < 9 + (ub s 4).toNat + (ub s (5 + (ub s 4).toNat)).toNat * (ub s (6 + (ub s 4).toNat)).toNat + (ub s (5 + (ub s 4).toNat)).toNat then none else
  if okKept (cut s 5 ((5 + (ub s 4).toNat : Nat) : Int)) (ub s (5 + (ub s 4).toNat)) (ub s (6 + (ub s 4).toNat)) (nxF s (ub s 4).toNat ((ub s (5 + (ub s 4).toNat)).toNat * (ub s (6 + (ub s 4).toNat)).toNat)) (esF s (ub s 4).toNat ((ub s (5 + (ub s 4).toNat)).toNat * (ub s (6 + (ub s 4).toNat)).toNat) (ub s (5 + (ub s 4).toNat)).toNat) = true ∧
      storeB (cut s 5 ((5 + (ub s 4).toNat : Nat) : Int)) (ub s (5 + (ub s 4).toNat)) (ub s (6 + (ub s 4).toNat)) (nxF s (ub s 4).toNat ((ub s (5 + (ub s 4).toNat)).toNat * (ub s (6 + (ub s 4).toNat)).toNat)) (esF s (ub s 4).toNat ((ub s (5 + (ub s 4).toNat)).toNat * (ub s (6 + (ub s 4).toNat)).toNat) (ub s (5 + (ub s 4).toNat)).toNat)
        = s.take (9 + (ub s 4).toNat + (ub s (5 + (ub s 4).toNat)).toNat * (ub s (6 + (ub s 4).toNat)).toNat + (ub s (5 + (ub s 4).toNat)).toNat) then
    some ((cut s 5 ((5 + (ub s 4).toNat : Nat) : Int), ub s (5 + (ub s 4).toNat), ub s (6 + (ub s 4).toNat), nxF s (ub s 4).toNat ((ub s (5 + (ub s 4).toNat)).toNat * (ub s (6 + (ub s 4).toNat)).toNat), esF s (ub s 4).toNat ((ub s (5 + (ub s 4).toNat)).toNat * (ub s (6 + (ub s 4).toNat)).toNat) (ub s (5 + (ub s 4).toNat)).toNat), 9 + (ub s 4).toNat + (ub s (5 + (ub s 4).toNat)).toNat * (ub s (6 + (ub s 4).toNat)).toNat + (ub s (5 + (ub s 4).toNat)).toNat)
  else none

theorem cut0 (s : List UInt8) (E : Nat) : cut s 0 (E : Int) = s.take E := by simp [cut]

theorem hasPrefix_ok {s t : List UInt8} : strings_HasPrefix s t = some (decide (t = s.take t.length)) := by
  unfold strings_HasPrefix internal_stringslite_HasPrefix
  by_cases h : lenI s ≥ lenI t
  · have hd : decide (lenI s ≥ lenI t) = true := decide_eq_true h
    simp only [hd, cond_true, guard_pos (show (0 : Int) ≤ lenI t ∧ lenI t ≤ lenI s from ⟨by simp only [lenI]; omega, h⟩), Option.bind_some, cut0]
    congr 1
    rw [Bool.eq_iff_iff, beq_iff_eq, decide_eq_true_eq]
    exact ⟨fun e => e.symm, fun e => e.symm⟩
  · have : ¬ t = s.take t.length := fun e => by
      have := congrArg List.length e
      simp only [lenI] at h
      simp at this
      omega
    simp only [h, this, decide_false, cond_false, Option.bind_some]

theorem loadF_len {s : List UInt8} {k : KeptD} {e : Nat} (h : loadF s = some (k, e)) : 9 ≤ e ∧ k.1.length ≤ 8 ∧ k.2.2.2.1.length ≤ 256 ∧ k.2.2.2.2.length ≤ 64 := by
  unfold loadF at h
  split at h
  · cases h
  · split at h
    · cases h
    · split at h
      · cases h
      · split at h
        · rename_i hok
          injection h with h
          injection h with h1 h2
          have := okKept_len hok.1
          subst h1
          exact ⟨by omega, this⟩
        · cases h

end Go.Proofs


/-
  Lists of machines that are kept: StoreKepts, SameKept.
-/
namespace Go.Proofs
open Go.Ide Go.IntWalk

def eqL {α : Type} [BEq α] (d : α) (xs ys : List α) : Bool := (lenI xs == lenI ys) && allN (fun i => xs.getD i d == ys.getD i d) xs.length 0

theorem loop_eqL {α : Type} [BEq α] {f : Int → Option (Int ⊕ (Unit ⊕ Unit))} (d : α) (xs ys : List α) (h : xs.length ≤ 4294967296)
    (hstep : ∀ i : Nat, i < xs.length → i < ys.length → f (i : Int) = some (bif xs.getD i d == ys.getD i d then .inl ((i + 1 : Nat) : Int) else .inr (.inr ())))
    (hend : f ((xs.length : Nat) : Int) = some (.inr (.inl ()))) (hl : (lenI xs == lenI ys) = true) : rounds f 0 = some (bif eqL d xs ys then .inl () else .inr ()) := by
  have hlen : xs.length = ys.length := by
    have := eq_of_beq hl
    simp only [lenI] at this
    omega
  have := rounds_all (f := f) (fun i => ((i : Nat) : Int)) (fun i => xs.getD i d == ys.getD i d) (Sum.inl ()) (Sum.inr ()) (n := xs.length) (fun i hi => hstep i hi (by omega)) hend xs.length 0 (by omega)
  rw [Int.natCast_zero] at this
  rw [this]
  unfold eqL
  rw [hl, Bool.true_and]

theorem equalI {xs ys : List Int} (h : xs.length ≤ 4294967296) : slices_Equal___int64_int64 xs ys = some (eqL 0 xs ys) := by
  unfold slices_Equal___int64_int64
  cases hl : (lenI xs == lenI ys) with
  | false => simp only [bne, hl, Bool.not_false, cond_true]; unfold eqL; rw [hl]; rfl
  | true =>
    simp only [bne, hl, Bool.not_true, cond_false]
    rw [loop_eqL (f := slices_Equal___int64_int64_B1 xs ys) 0 xs ys h (fun i h1 h2 => by
      unfold slices_Equal___int64_int64_B1
      simp only [ltN h1, cond_true, guard_pos (idxN h1), guard_pos (idxN h2), Int.toNat_natCast, nextN h1 h, bne]
      cases (xs.getD i 0 == ys.getD i 0) <;> rfl) (by
      unfold slices_Equal___int64_int64_B1
      simp only [geN (Nat.le_refl _), cond_false]) hl]
    cases eqL 0 xs ys <;> rfl

theorem equalB {xs ys : List Bool} (h : xs.length ≤ 4294967296) : slices_Equal___bool_bool xs ys = some (eqL false xs ys) := by
  unfold slices_Equal___bool_bool
  cases hl : (lenI xs == lenI ys) with
  | false => simp only [bne, hl, Bool.not_false, cond_true]; unfold eqL; rw [hl]; rfl
  | true =>
    simp only [bne, hl, Bool.not_true, cond_false]
    rw [loop_eqL (f := slices_Equal___bool_bool_B1 xs ys) false xs ys h (fun i h1 h2 => by
      unfold slices_Equal___bool_bool_B1
      simp only [ltN h1, cond_true, guard_pos (idxN h1), guard_pos (idxN h2), Int.toNat_natCast, nextN h1 h, bne]
      cases (xs.getD i false == ys.getD i false) <;> rfl) (by
      unfold slices_Equal___bool_bool_B1
      simp only [geN (Nat.le_refl _), cond_false]) hl]
    cases eqL false xs ys <;> rfl

abbrev PlainT := Int × Int × List Int × List Bool

def sameP (p q : PlainT) : Bool := (p.1 == q.1) && ((p.2.1 == q.2.1) && (eqL 0 p.2.2.1 q.2.2.1 && eqL false p.2.2.2 q.2.2.2))

theorem implSameP {a b : Int} {xs : List Int} {bs : List Bool} {a' b' : Int} {xs' : List Int} {bs' : List Bool} (h : xs.length ≤ 4294967296) (h2 : bs.length ≤ 4294967296) : impl_SamePlain (a, b, xs, bs) (a', b', xs', bs') = some (sameP (a, b, xs, bs) (a', b', xs', bs')) := by
  unfold impl_SamePlain sameP
  simp only [equalI h, equalB h2, Option.bind_some]
  cases (a == a') <;> cases (b == b') <;> cases eqL 0 xs xs' <;> cases eqL false bs bs' <;> rfl

end Go.Proofs


/-
  The source from which the laws draw.
-/
namespace Go.Proofs
open Go.Ide Go.IntWalk

abbrev SrcD := List Int × Int × Int

def BytesI (c : List Int) : Prop := c.length ≤ 1048576 ∧ ∀ i, i < c.length → 0 ≤ c.getD i 0 ∧ c.getD i 0 ≤ 255

theorem bytesI_wf {x : List Int} (w : WfD (.sl (.int .u8)) x) (h : x.length ≤ 1048576) : BytesI x := by
  refine ⟨h, fun i hi => ?_⟩
  have := w.2 i hi
  have h2 : (Lit.int .u8 (x[i] : Int)).wf = true := this
  rw [List.getD_eq_getElem?_getD, List.getElem?_eq_getElem hi]
  simp only [Lit.wf, Bool.and_eq_true, decide_eq_true_eq] at h2
  have e1 : IntKind.u8.min = 0 := by decide
  have e2 : IntKind.u8.max = 255 := by decide
  rw [e1, e2] at h2
  simp only [Option.getD_some]
  omega

structure SrcOK (n : Nat) (s : SrcD) : Prop where
  code : BytesI s.1
  at0 : 0 ≤ s.2.1
  at1 : s.2.1 + (n : Int) ≤ 1000000000000000000

theorem SrcOK.mono {n m : Nat} {s : SrcD} (h : SrcOK n s) (hm : m ≤ n) : SrcOK m s := ⟨h.code, h.at0, by have := h.at1; omega⟩

theorem SrcOK.from {c : List Int} (h : BytesI c) : spec_l00From c = some (c, (0 : Int), (0 : Int)) ∧ SrcOK 1000000000000000000 (c, (0 : Int), (0 : Int)) := ⟨rfl, h, Int.le_refl _, by simp⟩

theorem byte64 (x : Int) (h : 0 ≤ x ∧ x ≤ 255) : IntKind.wrap .i64 x = x := i64_in _ (by omega)

theorem low255 (z : Int) : ∃ y : Int, IntKind.wrap .i64 (IntKind.wrap .u64 (((BitVec.ofInt (IntKind.bits .u64) z &&& BitVec.ofInt (IntKind.bits .u64) (255 : Int)).toNat : Nat) : Int)) = y ∧ 0 ≤ y ∧ y ≤ 255 := by
  have h1 : (BitVec.ofInt (IntKind.bits .u64) z &&& BitVec.ofInt (IntKind.bits .u64) (255 : Int)).toNat ≤ 255 := by
    rw [BitVec.toNat_and]
    refine Nat.le_trans Nat.and_le_right ?_
    decide
  generalize (BitVec.ofInt (IntKind.bits .u64) z &&& BitVec.ofInt (IntKind.bits .u64) (255 : Int)).toNat = q at h1
  have h2 : IntKind.wrap .u64 ((q : Nat) : Int) = (q : Int) := by
    unfold IntKind.wrap
    simp only [IntKind.bits, IntKind.signed, Bool.false_and, Bool.false_eq_true, if_false]
    omega
  rw [h2, i64_in _ (by omega)]
  exact ⟨_, rfl, by omega, by omega⟩

theorem next_ok {n : Nat} {s : SrcD} (h : SrcOK (n + 1) s) : ∃ x s', spec_l00Src_next s = some (x, s') ∧ 0 ≤ x ∧ x ≤ 255 ∧ SrcOK n s' := by
  obtain ⟨c, a, z⟩ := s
  obtain ⟨hc, h0, h1⟩ := h
  have h0 : 0 ≤ a := h0
  have h1 : a + ((n + 1 : Nat) : Int) ≤ 1000000000000000000 := h1
  have e1 : wadd .i64 a 1 = a + 1 := waddI (by omega)
  unfold spec_l00Src_next
  simp only [e1]
  have hs : ∀ z', SrcOK n (c, a + 1, z') := fun z' => ⟨hc, by show 0 ≤ a + 1; omega, by show a + 1 + (n : Int) ≤ _; omega⟩
  have key : ∀ v : Int, 0 ≤ v ∧ v ≤ 255 → ∃ x s', (bif decide (a + 1 ≤ lenI c) then some (v, c, a + 1, wadd .u64 (wadd .u64 (wmul .u64 z 6364136223846793005) (IntKind.wrap .u64 v)) 1442695040888963407)
      else (some (IntKind.wrap .i64 (IntKind.wrap .u64 (((BitVec.ofInt (IntKind.bits .u64) (Int.fdiv (wadd .u64 (wadd .u64 (wmul .u64 z 6364136223846793005) (IntKind.wrap .u64 v)) 1442695040888963407) (2 ^ (min (Int.toNat (40 : Int)) (IntKind.bits .u64)))) &&& BitVec.ofInt (IntKind.bits .u64) (255 : Int)).toNat : Nat) : Int)))).bind fun q5 =>
        some (q5, c, a + 1, wadd .u64 (wadd .u64 (wmul .u64 z 6364136223846793005) (IntKind.wrap .u64 v)) 1442695040888963407)) = some (x, s') ∧ 0 ≤ x ∧ x ≤ 255 ∧ SrcOK n s' := by
    intro v hv
    cases decide (a + 1 ≤ lenI c) with
    | true => exact ⟨_, _, rfl, hv.1, hv.2, hs _⟩
    | false =>
      obtain ⟨y, e, y1, y2⟩ := low255 (Int.fdiv (wadd .u64 (wadd .u64 (wmul .u64 z 6364136223846793005) (IntKind.wrap .u64 v)) 1442695040888963407) (2 ^ (min (Int.toNat (40 : Int)) (IntKind.bits .u64))))
      rw [e]
      exact ⟨_, _, rfl, y1, y2, hs _⟩
  by_cases hlt : a < lenI c
  · have hi : a.toNat < c.length := by simp only [lenI] at hlt; omega
    have hb := hc.2 a.toNat hi
    simp only [hlt, decide_true, cond_true]
    rw [guard_pos ⟨h0, trivial⟩, byte64 _ hb]
    exact key _ hb
  · simp only [hlt, decide_false, cond_false]
    exact key 0 (by omega)

theorem tmod_in {x n : Int} (hx : 0 ≤ x) (hn : 0 < n) : 0 ≤ Int.tmod x n ∧ Int.tmod x n < n := by
  rw [Int.tmod_eq_emod_of_nonneg hx]
  exact ⟨Int.emod_nonneg _ (by omega), Int.emod_lt_of_pos _ hn⟩

theorem pick_ok {n : Nat} {s : SrcD} (h : SrcOK (n + 2) s) (k : Int) : ∃ x s', spec_l00Src_pick s k = some (x, s') ∧ 0 ≤ x ∧ (x < k ∨ x = 0) ∧ SrcOK n s' := by
  unfold spec_l00Src_pick
  by_cases h1 : k ≤ 1
  · simp only [h1, decide_true, cond_true]
    exact ⟨_, _, rfl, Int.le_refl _, .inr rfl, h.mono (by omega)⟩
  · simp only [h1, decide_false, cond_false]
    obtain ⟨x, s1, e1, x1, x2, o1⟩ := next_ok h
    simp only [e1, Option.bind_some]
    by_cases h2 : k > 200
    · obtain ⟨y, s2, e2, y1, y2, o2⟩ := next_ok o1
      have e3 : wmul .i64 x 256 = x * 256 := wmulI (by omega)
      have e4 : wadd .i64 (x * 256) y = x * 256 + y := waddI (by omega)
      simp only [h2, decide_true, cond_true, e2, Option.bind_some, e3, e4]
      rw [guard_pos (by omega)]
      have := tmod_in (x := x * 256 + y) (n := k) (by omega) (by omega)
      exact ⟨_, _, rfl, this.1, .inl this.2, o2⟩
    · simp only [h2, decide_false, cond_false, Option.bind_some]
      rw [guard_pos (by omega)]
      have := tmod_in (x := x) (n := k) (by omega) (by omega)
      exact ⟨_, _, rfl, this.1, .inl this.2, o1.mono (by omega)⟩

theorem b10At_ok {c : List Int} (hc : BytesI c) {i n : Int} (hi : 0 ≤ i ∧ i ≤ 1000000000000) : ∃ x, laws_b10At c i n = some x ∧ 0 ≤ x ∧ (x < n ∨ x = 0) := by
  unfold laws_b10At
  by_cases h1 : n ≤ 1
  · simp only [h1, decide_true, cond_true]
    exact ⟨_, rfl, Int.le_refl _, .inr rfl⟩
  · simp only [h1, decide_false, cond_false]
    by_cases hlt : i < lenI c
    · have hj : i.toNat < c.length := by simp only [lenI] at hlt; omega
      have hb := hc.2 i.toNat hj
      simp only [hlt, decide_true, cond_true]
      rw [guard_pos ⟨hi.1, trivial⟩, guard_pos (by omega), byte64 _ hb]
      have := tmod_in (x := c.getD i.toNat 0) (n := n) hb.1 (by omega)
      exact ⟨_, rfl, this.1, .inl this.2⟩
    · simp only [hlt, decide_false, cond_false]
      rw [guard_pos (by omega), wmulI (by omega), waddI (by omega)]
      have := tmod_in (x := i * 37 + 11) (n := n) (by omega) (by omega)
      exact ⟨_, rfl, this.1, .inl this.2⟩

end Go.Proofs


/-
  Machines that are kept: what is stored is read again; of what is cut or bent a beginning is read.
-/
namespace Go.Proofs
open Go.Ide Go.IntWalk

theorem getD_app {α : Type} {xs ys : List α} {i : Nat} {d : α} : (xs ++ ys).getD i d = if i < xs.length then xs.getD i d else ys.getD (i - xs.length) d := by
  split
  · rename_i h; rw [List.getD_eq_getElem?_getD, List.getElem?_append_left h, List.getD_eq_getElem?_getD]
  · rename_i h; rw [List.getD_eq_getElem?_getD, List.getElem?_append_right (by omega), List.getD_eq_getElem?_getD]

theorem bytesO_get {L : List Int} {i : Nat} (h : i < L.length) : (bytesO L).getD i 0 = UInt8.ofNat (L.getD i 0).toNat := by
  unfold bytesO
  simp [List.getD_eq_getElem?_getD, h]

theorem wrap8 {x : Int} (h : 0 ≤ x ∧ x ≤ 255) : IntKind.wrap .u8 x = x := by
  rw [IntKind.wrap_u8]; omega

def storeK (k : KeptD) : List UInt8 := storeB k.1 k.2.1 k.2.2.1 k.2.2.2.1 k.2.2.2.2
def okK (k : KeptD) : Prop := okKept k.1 k.2.1 k.2.2.1 k.2.2.2.1 k.2.2.2.2 = true

theorem storeK_len (k : KeptD) : (storeK k).length = k.1.length + 9 + k.2.2.2.1.length + k.2.2.2.2.length := storeB_len _ _ _ _ _

structure Bytes (k : KeptD) (m c : Nat) : Prop where
  n1 : 1 ≤ k.1.length
  n8 : k.1.length ≤ 8
  es : k.2.2.2.2.length = m
  nx : k.2.2.2.1.length = m * c
  m1 : 1 ≤ m
  m2 : m ≤ 64
  c1 : 1 ≤ c
  c2 : c ≤ 4
  s : k.2.1 = (m : Int)
  l : k.2.2.1 = (c : Int)
  b4 : (storeK k).getD 4 0 = UInt8.ofNat k.1.length
  bn : ∀ i, i < k.1.length → (storeK k).getD (5 + i) 0 = k.1.getD i 0
  bs : (storeK k).getD (5 + k.1.length) 0 = UInt8.ofNat m
  bl : (storeK k).getD (6 + k.1.length) 0 = UInt8.ofNat c
  bx : ∀ i, i < m * c → (storeK k).getD (7 + k.1.length + i) 0 = UInt8.ofNat (k.2.2.2.1.getD i 0).toNat ∧ 0 ≤ k.2.2.2.1.getD i 0 ∧ k.2.2.2.1.getD i 0 ≤ 255
  be : ∀ i, i < m → (storeK k).getD (7 + k.1.length + m * c + i) 0 = if k.2.2.2.2.getD i false then 1 else 0

theorem bytes_of {k : KeptD} (h : okK k) : ∃ m c, Bytes k m c := by
  obtain ⟨nm, s, l, nx, es⟩ := k
  have h : okKept nm s l nx es = true := h
  have hl := okKept_len h
  have h0 := h
  unfold okKept okName at h
  simp only [Bool.and_eq_true, decide_eq_true_eq, lenI] at h
  obtain ⟨⟨_, h1, h2⟩, h3⟩ := h
  obtain ⟨m, c, rfl, rfl, a1, a2, a3, a4, a5, a6, a7⟩ := okPlain_spec h3
  have hmc : m * c ≤ 64 * 4 := Nat.mul_le_mul a2 a4
  have hb := storeBody_len nm (m : Int) (c : Int) nx es
  have hd := storeHd_len nm (m : Int) (c : Int)
  -- a byte of the body
  have body : ∀ j, j < nm.length + 7 + nx.length + es.length → (storeK (nm, (m : Int), (c : Int), nx, es)).getD j 0 = UInt8.ofNat ((storeBody nm (m : Int) (c : Int) nx es).getD j 0).toNat := fun j hj => by
    show (storeB nm (m : Int) (c : Int) nx es).getD j 0 = _
    unfold storeB
    rw [bytesO_get (by rw [List.length_append, hb]; simp; omega), getD_app, if_pos (by rw [hb]; exact hj)]
  have hdr : ∀ j, j < nm.length + 7 → (storeBody nm (m : Int) (c : Int) nx es).getD j 0 = (storeHd nm (m : Int) (c : Int)).getD j 0 := fun j hj => by
    unfold storeBody
    rw [getD_app, if_pos (by rw [List.length_append, hd]; omega), getD_app, if_pos (by rw [hd]; exact hj)]
  have hI : ∀ i, i < nm.length → (bytesI nm).getD i 0 = ((((nm.getD i 0 : UInt8).toNat : Nat)) : Int) := fun i hi => by
    unfold bytesI
    simp [List.getD_eq_getElem?_getD, hi]
  refine ⟨m, c, ⟨by show 1 ≤ nm.length; omega, hl.1, a6, a5, a1, a2, a3, a4, rfl, rfl, ?_, fun i hi => ?_, ?_, ?_, fun i hi => ?_, fun i hi => ?_⟩⟩
  · rw [body 4 (by omega), hdr 4 (by omega)]
    unfold storeHd
    rw [getD_app, if_pos (by simp [bytesI_len]), getD_app, if_pos (by simp), getD_app, if_neg (by simp)]
    simp only [List.length_cons, List.length_nil, Nat.reduceAdd, Nat.sub_self, List.getD_cons_zero]
    rw [wrap8 (by simp only [lenI]; omega)]
    rfl
  · have hi : i < nm.length := hi
    show (storeK (nm, (m : Int), (c : Int), nx, es)).getD (5 + i) 0 = nm.getD i 0
    rw [body (5 + i) (by omega), hdr (5 + i) (by omega)]
    unfold storeHd
    rw [getD_app, if_pos (by simp [bytesI_len]; omega), getD_app, if_neg (by simp)]
    simp only [List.length_append, List.length_cons, List.length_nil, Nat.reduceAdd, Nat.add_sub_cancel_left]
    rw [hI i hi, Int.toNat_natCast]
    exact UInt8.ofNat_toNat
  · show (storeK (nm, (m : Int), (c : Int), nx, es)).getD (5 + nm.length) 0 = _
    rw [body _ (by omega), hdr _ (by omega)]
    unfold storeHd
    rw [getD_app, if_neg (by simp [bytesI_len]; omega)]
    have e : (([65, 85, 84, 49] ++ [IntKind.wrap .u8 (lenI nm)]) ++ bytesI nm : List Int).length = 5 + nm.length := by simp [bytesI_len]; omega
    rw [e, Nat.sub_self]
    show UInt8.ofNat (IntKind.wrap .u8 (m : Int)).toNat = _
    rw [wrap8 (by omega)]; rfl
  · show (storeK (nm, (m : Int), (c : Int), nx, es)).getD (6 + nm.length) 0 = _
    rw [body _ (by omega), hdr _ (by omega)]
    unfold storeHd
    rw [getD_app, if_neg (by simp [bytesI_len]; omega)]
    have e : (([65, 85, 84, 49] ++ [IntKind.wrap .u8 (lenI nm)]) ++ bytesI nm : List Int).length = 5 + nm.length := by simp [bytesI_len]; omega
    rw [e, show 6 + nm.length - (5 + nm.length) = 1 by omega]
    show UInt8.ofNat (IntKind.wrap .u8 (c : Int)).toNat = _
    rw [wrap8 (by omega)]; rfl
  · obtain ⟨t, e, ht⟩ := a7 i hi
    show (storeK (nm, (m : Int), (c : Int), nx, es)).getD (7 + nm.length + i) 0 = UInt8.ofNat (nx.getD i 0).toNat ∧ 0 ≤ nx.getD i 0 ∧ nx.getD i 0 ≤ 255
    rw [body _ (by omega)]
    unfold storeBody
    rw [getD_app, if_pos (by simp [hd]; omega), getD_app, if_neg (by rw [hd]; omega), hd, show 7 + nm.length + i - (nm.length + 7) = i by omega]
    have : ((List.range nx.length).map fun i => IntKind.wrap .u8 (nx.getD i 0)).getD i 0 = IntKind.wrap .u8 (nx.getD i 0) := by
      have hin : i < nx.length := by omega
      simp [List.getD_eq_getElem?_getD, hin]
    rw [this, wrap8 (by omega)]
    exact ⟨rfl, by omega, by omega⟩
  · show (storeK (nm, (m : Int), (c : Int), nx, es)).getD (7 + nm.length + m * c + i) 0 = if es.getD i false then 1 else 0
    rw [body _ (by omega)]
    unfold storeBody
    rw [getD_app, if_neg (by simp [hd]; omega)]
    have e : (storeHd nm (m : Int) (c : Int) ++ (List.range nx.length).map fun i => IntKind.wrap .u8 (nx.getD i 0)).length = nm.length + 7 + m * c := by simp [hd, a5]
    rw [e, show 7 + nm.length + m * c + i - (nm.length + 7 + m * c) = i by omega]
    have : ((List.range es.length).map fun i => if es.getD i false then (1 : Int) else 0).getD i 0 = if es.getD i false then 1 else 0 := by
      have hin : i < es.length := by omega
      simp [List.getD_eq_getElem?_getD, hin]
    rw [this]
    cases es.getD i false <;> rfl

def Agree (t : List UInt8) (k : KeptD) : Prop := ∀ i, i < t.length → i < (storeK k).length → t.getD i 0 = (storeK k).getD i 0

theorem ub_of {t : List UInt8} {i x : Nat} (h : t.getD i 0 = UInt8.ofNat x) (hx : x ≤ 255) : ub t i = (x : Int) := by
  unfold ub
  rw [h, UInt8.toNat_ofNat', Nat.mod_eq_of_lt (by omega)]

theorem loadF_short {t : List UInt8} {k : KeptD} (hk : okK k) (ha : Agree t k) (hl : t.length < (storeK k).length) : loadF t = none := by
  obtain ⟨m, c, b⟩ := bytes_of hk
  have hmc : m * c ≤ 64 * 4 := Nat.mul_le_mul b.m2 b.c2
  have hlen := storeK_len k
  rw [b.nx, b.es] at hlen
  have n8 := b.n8
  have m2 := b.m2
  have c2 := b.c2
  unfold loadF
  by_cases h5 : t.length < 5
  · rw [if_pos h5]
  · rw [if_neg h5]
    have e4 : ub t 4 = (k.1.length : Int) := ub_of (by rw [ha 4 (by omega) (by omega)]; exact b.b4) (by omega)
    rw [e4, Int.toNat_natCast]
    by_cases h7 : t.length < 7 + k.1.length
    · rw [if_pos h7]
    · rw [if_neg h7]
      have es : ub t (5 + k.1.length) = (m : Int) := ub_of (by rw [ha _ (by omega) (by omega)]; exact b.bs) (by omega)
      have el : ub t (6 + k.1.length) = (c : Int) := ub_of (by rw [ha _ (by omega) (by omega)]; exact b.bl) (by omega)
      rw [es, el, Int.toNat_natCast, Int.toNat_natCast, if_pos (by omega)]

theorem loadF_whole {t : List UInt8} {k : KeptD} (hk : okK k) (ha : Agree t k) (hl : (storeK k).length ≤ t.length) : loadF t = some (k, (storeK k).length) := by
  obtain ⟨m, c, b⟩ := bytes_of hk
  have hmc : m * c ≤ 64 * 4 := Nat.mul_le_mul b.m2 b.c2
  have hlen := storeK_len k
  rw [b.nx, b.es] at hlen
  have n8 := b.n8
  have m2 := b.m2
  have c2 := b.c2
  have e4 : ub t 4 = (k.1.length : Int) := ub_of (by rw [ha 4 (by omega) (by omega)]; exact b.b4) (by omega)
  have es : ub t (5 + k.1.length) = (m : Int) := ub_of (by rw [ha _ (by omega) (by omega)]; exact b.bs) (by omega)
  have el : ub t (6 + k.1.length) = (c : Int) := ub_of (by rw [ha _ (by omega) (by omega)]; exact b.bl) (by omega)
  have hcut : cut t 5 ((5 + k.1.length : Nat) : Int) = k.1 := by
    unfold cut
    rw [Int.toNat_natCast, show (5 : Int).toNat = 5 from rfl, show 5 + k.1.length - 5 = k.1.length by omega]
    refine List.ext_getElem (by simp; omega) fun i h1 h2 => ?_
    have hi : i < k.1.length := h2
    have := ha (5 + i) (by omega) (by omega)
    rw [b.bn i hi] at this
    simp only [List.getElem_take, List.getElem_drop]
    rw [List.getD_eq_getElem?_getD, List.getD_eq_getElem?_getD, List.getElem?_eq_getElem (by omega), List.getElem?_eq_getElem hi] at this
    simpa using this
  have hnx : nxF t k.1.length (m * c) = k.2.2.2.1 := by
    unfold nxF
    refine List.ext_getElem (by simp [b.nx]) fun i h1 h2 => ?_
    have hi : i < m * c := by simpa using h1
    obtain ⟨q1, q2, q3⟩ := b.bx i hi
    have := ha (7 + k.1.length + i) (by omega) (by omega)
    rw [q1] at this
    have hu := ub_of (x := (k.2.2.2.1.getD i 0).toNat) this (by omega)
    simp only [List.getElem_map, List.getElem_range]
    rw [hu, Int.toNat_of_nonneg q2, List.getD_eq_getElem?_getD, List.getElem?_eq_getElem h2]
    rfl
  have hes : esF t k.1.length (m * c) m = k.2.2.2.2 := by
    unfold esF
    refine List.ext_getElem (by simp [b.es]) fun i h1 h2 => ?_
    have hi : i < m := by simpa using h1
    have := ha (7 + k.1.length + m * c + i) (by omega) (by omega)
    rw [b.be i hi] at this
    simp only [List.getElem_map, List.getElem_range]
    have e : k.2.2.2.2.getD i false = k.2.2.2.2[i] := by rw [List.getD_eq_getElem?_getD, List.getElem?_eq_getElem h2]; rfl
    rw [e] at this
    unfold ub
    rw [this]
    cases k.2.2.2.2[i] <;> rfl
  have htake : t.take (9 + k.1.length + m * c + m) = storeK k := by
    refine List.ext_getElem (by simp; omega) fun i h1 h2 => ?_
    have := ha i (by simp at h1; omega) h2
    rw [List.getD_eq_getElem?_getD, List.getD_eq_getElem?_getD, List.getElem?_eq_getElem (by simp at h1; omega), List.getElem?_eq_getElem h2] at this
    simpa using this
  unfold loadF
  rw [if_neg (by omega)]
  simp only [e4, Int.toNat_natCast]
  rw [if_neg (by omega)]
  simp only [es, el, Int.toNat_natCast]
  rw [if_neg (by omega), hcut, hnx, hes, htake]
  rw [if_pos ⟨by rw [← b.s, ← b.l]; exact hk, by rw [← b.s, ← b.l]; rfl⟩]
  rw [← b.s, ← b.l, show 9 + k.1.length + m * c + m = (storeK k).length by omega]

theorem agree_app (k : KeptD) (rest : List UInt8) : Agree (storeK k ++ rest) k := fun i _ h => by rw [getD_app, if_pos h]

theorem loadF_app {k : KeptD} (hk : okK k) (rest : List UInt8) : loadF (storeK k ++ rest) = some (k, (storeK k).length) :=
  loadF_whole hk (agree_app k rest) (by simp)

theorem loadF_inv {s : List UInt8} {k : KeptD} {e : Nat} (h : loadF s = some (k, e)) : okK k ∧ storeK k = s.take e ∧ e = (storeK k).length ∧ e ≤ s.length ∧ 9 ≤ e := by
  have h9 := (loadF_len h).1
  unfold loadF at h
  split at h
  · cases h
  · split at h
    · cases h
    · split at h
      · cases h
      · split at h
        · rename_i hn5 hn7 hn9 hok
          injection h with h
          injection h with h1 h2
          have hs : storeK k = s.take e := by rw [← h1, ← h2]; exact hok.2
          have hk : okK k := by rw [← h1]; exact hok.1
          refine ⟨hk, hs, ?_, by omega, h9⟩
          rw [hs, List.length_take]
          omega
        · cases h

def recL : Nat → List UInt8 → List KeptD × Nat
  | 0, _ => ([], 0)
  | f + 1, s => match loadF s with
    | none => ([], 0)
    | some (k, e) => (k :: (recL f (s.drop e)).1, e + (recL f (s.drop e)).2)

theorem recL_succ (f : Nat) (s : List UInt8) : recL (f + 1) s = match loadF s with
    | none => ([], 0)
    | some (k, e) => (k :: (recL f (s.drop e)).1, e + (recL f (s.drop e)).2) := rfl

def catK (ks : List KeptD) : List UInt8 := (ks.map storeK).flatten

theorem catK_cons (k : KeptD) (ks : List KeptD) : catK (k :: ks) = storeK k ++ catK ks := rfl
theorem catK_app (ks ls : List KeptD) : catK (ks ++ ls) = catK ks ++ catK ls := by simp [catK]

theorem recL_inv : ∀ (f : Nat) (s : List UInt8), (recL f s).1.length ≤ f ∧ (∀ k ∈ (recL f s).1, okK k) ∧ catK (recL f s).1 = s.take (recL f s).2 ∧ (recL f s).2 ≤ s.length
  | 0, s => by simp [recL, catK]
  | f + 1, s => by
    unfold recL
    cases h : loadF s with
    | none => simp [catK]
    | some p =>
      obtain ⟨k, e⟩ := p
      obtain ⟨h1, h2, h3, h4, h5⟩ := loadF_inv h
      obtain ⟨i1, i2, i3, i4⟩ := recL_inv f (s.drop e)
      simp only
      rw [List.length_drop] at i4
      refine ⟨by simp; omega, fun q hq => ?_, ?_, by omega⟩
      · rcases List.mem_cons.1 hq with rfl | hq
        · exact h1
        · exact i2 q hq
      · rw [catK_cons, h2, i3, List.take_add]

theorem recL_app : ∀ (ks : List KeptD) (f : Nat) (rest : List UInt8), (∀ k ∈ ks, okK k) → recL (ks.length + f) (catK ks ++ rest) = (ks ++ (recL f rest).1, (catK ks).length + (recL f rest).2)
  | [], f, rest, _ => by simp [catK]
  | k :: ks, f, rest, h => by
    have hk := h k (by simp)
    rw [List.length_cons, show ks.length + 1 + f = (ks.length + f) + 1 by omega, catK_cons, List.append_assoc]
    rw [recL_succ, loadF_app hk]
    simp only
    rw [List.drop_left, recL_app ks f rest (fun q hq => h q (by simp [hq]))]
    rw [List.length_append, Nat.add_assoc]
    rfl

theorem recL_none {f : Nat} {s : List UInt8} (h : loadF s = none) : recL f s = ([], 0) := by
  cases f with
  | zero => rfl
  | succ f => unfold recL; rw [h]

theorem loadF_nil : loadF [] = none := by unfold loadF; rw [if_pos (by simp)]

section
variable {s : List UInt8} {n N S : Nat} (hs : s.length ≤ 1048576) (hn : n ≤ 255) (hN : N ≤ 65025) (hS : S ≤ 255)
include hs hn hN hS

theorem iload_nx (hE : 7 + n + N ≤ s.length) : rounds (impl_readKept_B2 s ((5 + n : Nat) : Int) (N : Int)) ((0 : Int), ([] : List Int)) = some (nxF s n N) := by
  have := loop_app (f := impl_readKept_B2 s ((5 + n : Nat) : Int) (N : Int)) (fun i => ub s (7 + n + i)) N [] (fun i out hi ho => by
    unfold impl_readKept_B2
    have e1 : wadd .i64 (wadd .i64 ((5 + n : Nat) : Int) 2) (i : Int) = ((7 + n + i : Nat) : Int) := by
      rw [waddI (a := ((5 + n : Nat) : Int)) (b := 2) (by omega), waddI (by omega)]; omega
    have e2 : ((((List.getD s (7 + n + i) 0 : UInt8).toNat : Nat)) : Int) = ub s (7 + n + i) := rfl
    simp only [List.length_nil] at ho
    simp only [ltN hi, cond_true, e1, guard_pos (idxN (i := 7 + n + i) (n := s.length) (by omega)), Int.toNat_natCast, e2, ub_wrap, nextN hi (by omega)]
    rw [guard_pos (appOK (by simp only [List.length_cons, List.length_nil]; omega))]) (fun out => by
    unfold impl_readKept_B2
    simp only [geN (Nat.le_refl _), cond_false])
  rw [this]; rfl

theorem iload_es (hE : 7 + n + N + S ≤ s.length) (hq : ub s (5 + n) = (S : Int)) : rounds (impl_readKept_B1 s ((5 + n : Nat) : Int) (N : Int)) ((0 : Int), ([] : List Bool)) = some (esF s n N S) := by
  have := loop_app (f := impl_readKept_B1 s ((5 + n : Nat) : Int) (N : Int)) (fun i => (ub s (7 + n + N + i) == 1)) S [] (fun i out hi ho => by
    unfold impl_readKept_B1
    have e0 : IntKind.wrap .i64 ((((List.getD s (5 + n) 0 : UInt8).toNat : Nat)) : Int) = (S : Int) := by
      have := ub_wrap s (5 + n); rw [hq] at this
      have e : ((((List.getD s (5 + n) 0 : UInt8).toNat : Nat)) : Int) = ub s (5 + n) := rfl
      rw [e, hq]; exact this
    have e1 : wadd .i64 (wadd .i64 (wadd .i64 ((5 + n : Nat) : Int) 2) (N : Int)) (i : Int) = ((7 + n + N + i : Nat) : Int) := by
      rw [waddI (a := ((5 + n : Nat) : Int)) (b := 2) (by omega), waddI (a := ((5 + n : Nat) : Int) + 2) (b := (N : Int)) (by omega), waddI (by omega)]; omega
    have e2 : ((((List.getD s (7 + n + N + i) 0 : UInt8).toNat : Nat)) : Int) = ub s (7 + n + N + i) := rfl
    simp only [List.length_nil] at ho
    simp only [Int.toNat_natCast, e0, Option.bind_some, ltN hi, cond_true, e1, guard_pos (idxN (i := 7 + n + N + i) (n := s.length) (by omega)), e2, nextN hi (by omega)]
    rw [guard_pos (appOK (by simp only [List.length_cons, List.length_nil]; omega))]) (fun out => by
    unfold impl_readKept_B1
    have e0 : IntKind.wrap .i64 ((((List.getD s (5 + n) 0 : UInt8).toNat : Nat)) : Int) = (S : Int) := by
      have := ub_wrap s (5 + n); rw [hq] at this
      have e : ((((List.getD s (5 + n) 0 : UInt8).toNat : Nat)) : Int) = ub s (5 + n) := rfl
      rw [e, hq]; exact this
    simp only [Int.toNat_natCast, e0, Option.bind_some, geN (Nat.le_refl _), cond_false])
  rw [this]; rfl
end

theorem impl_read2 {s : List UInt8} (hs : s.length ≤ 1048576) : impl_readKept s = some (match loadF s with | some (k, e) => (k, ((e : Nat) : Int), true) | none => (zeroK, 0, false)) := by
  unfold impl_readKept loadF
  by_cases h5 : s.length < 5
  · have : decide (lenI s < (5 : Int)) = true := by simp only [lenI, decide_eq_true_eq]; omega
    rw [this, if_pos h5]; rfl
  · have e5 : decide (lenI s < (5 : Int)) = false := by simp only [lenI, decide_eq_false_iff_not]; omega
    have r4 := ub_range s 4
    have e4 : ((((List.getD s (Int.toNat (4 : Int)) 0 : UInt8).toNat : Nat)) : Int) = ub s 4 := rfl
    obtain ⟨n, hn⟩ : ∃ n : Nat, ub s 4 = (n : Int) := ⟨(ub s 4).toNat, by omega⟩
    have wn : IntKind.wrap .i64 (n : Int) = (n : Int) := i64_in _ (by omega)
    have en : wadd .i64 5 (n : Int) = ((5 + n : Nat) : Int) := by rw [waddI (by omega)]; omega
    have en7 : wadd .i64 7 (n : Int) = ((7 + n : Nat) : Int) := by rw [waddI (by omega)]; omega
    have en2 : wadd .i64 ((5 + n : Nat) : Int) 2 = ((7 + n : Nat) : Int) := by rw [waddI (by omega)]; omega
    have en1 : wadd .i64 ((5 + n : Nat) : Int) 1 = ((6 + n : Nat) : Int) := by rw [waddI (by omega)]; omega
    have hn255 : n ≤ 255 := by omega
    simp only [e5, cond_false, if_neg h5, e4, guard_pos (show (0 : Int) ≤ (4 : Int) ∧ (4 : Int) < lenI s from by simp only [lenI]; omega), hn, wn, en, en7, Option.bind_some, en2, Int.toNat_natCast]
    by_cases h7 : s.length < 7 + n
    · have : decide (lenI s < ((7 + n : Nat) : Int)) = true := by simp only [lenI, decide_eq_true_eq]; omega
      rw [this, if_pos h7]; rfl
    · have e7 : decide (lenI s < ((7 + n : Nat) : Int)) = false := by simp only [lenI, decide_eq_false_iff_not]; omega
      have rS := ub_range s (5 + n)
      have rL := ub_range s (6 + n)
      obtain ⟨S, hS⟩ : ∃ z : Nat, ub s (5 + n) = (z : Int) := ⟨(ub s (5 + n)).toNat, by omega⟩
      obtain ⟨L, hL⟩ : ∃ z : Nat, ub s (6 + n) = (z : Int) := ⟨(ub s (6 + n)).toNat, by omega⟩
      have hSL : S * L ≤ 255 * 255 := Nat.mul_le_mul (by omega) (by omega)
      have eS : ((((List.getD s (5 + n) 0 : UInt8).toNat : Nat)) : Int) = (S : Int) := hS
      have eL : ((((List.getD s (6 + n) 0 : UInt8).toNat : Nat)) : Int) = (L : Int) := hL
      have wS : IntKind.wrap .i64 (S : Int) = (S : Int) := i64_in _ (by omega)
      have wL : IntKind.wrap .i64 (L : Int) = (L : Int) := i64_in _ (by omega)
      have eSL : wmul .i64 (S : Int) (L : Int) = ((S * L : Nat) : Int) := by rw [wmulI (by rw [← Int.natCast_mul]; omega), Int.natCast_mul]
      have eE : wadd .i64 (wadd .i64 ((7 + n : Nat) : Int) ((S * L : Nat) : Int)) (S : Int) = ((7 + n + S * L + S : Nat) : Int) := by
        rw [waddI (a := ((7 + n : Nat) : Int)) (b := ((S * L : Nat) : Int)) (by omega), waddI (by omega)]; omega
      have eE2 : wadd .i64 ((7 + n + S * L + S : Nat) : Int) 2 = ((9 + n + S * L + S : Nat) : Int) := by rw [waddI (by omega)]; omega
      simp only [e7, cond_false, if_neg h7, guard_pos (show (0 : Int) ≤ (5 : Int) ∧ (5 : Int) ≤ ((5 + n : Nat) : Int) ∧ ((5 + n : Nat) : Int) ≤ lenI s from by simp only [lenI]; omega), guard_pos (idxN (i := 5 + n) (n := s.length) (by omega)), en1, guard_pos (idxN (i := 6 + n) (n := s.length) (by omega)), Int.toNat_natCast, eS, eL, wS, wL, eSL, Option.bind_some, eE, eE2, hS, hL]
      by_cases h9 : s.length < 9 + n + S * L + S
      · have : decide (lenI s < ((9 + n + S * L + S : Nat) : Int)) = true := by simp only [lenI, decide_eq_true_eq]; omega
        simp only [this, cond_true, if_pos h9]; rfl
      · have e9 : decide (lenI s < ((9 + n + S * L + S : Nat) : Int)) = false := by simp only [lenI, decide_eq_false_iff_not]; omega
        have hb : rounds (impl_readKept_B2 s ((5 + n : Nat) : Int) ((S * L : Nat) : Int)) ((0 : Int), ([] : List Int)) = _ := iload_nx hs hn255 (N := S * L) (S := S) (by omega) (by omega) (by omega)
        have hb1 : rounds (impl_readKept_B1 s ((5 + n : Nat) : Int) ((S * L : Nat) : Int)) ((0 : Int), ([] : List Bool)) = _ := iload_es hs hn255 (N := S * L) (S := S) (by omega) (by omega) (by omega) hS
        have hnl : (cut s 5 ((5 + n : Nat) : Int)).length ≤ 1048576 := by unfold cut; simp; omega
        have hnl2 : (cut s 5 ((5 + n : Nat) : Int)).length = n := by unfold cut; simp; omega
        have hnx : (nxF s n (S * L)).length ≤ 1048576 := by simp [nxF]; omega
        have hes : (esF s n (S * L) S).length ≤ 1048576 := by simp [esF]; omega
        have hlen := storeB_len (cut s 5 ((5 + n : Nat) : Int)) (S : Int) (L : Int) (nxF s n (S * L)) (esF s n (S * L) S)
        have hlen : (storeB (cut s 5 ((5 + n : Nat) : Int)) (S : Int) (L : Int) (nxF s n (S * L)) (esF s n (S * L) S)).length = 9 + n + S * L + S := by
          rw [hlen, hnl2]; simp [nxF, esF]; omega
        simp only [e9, cond_false, if_neg h9, hb, hb1, Option.bind_some, impl_store (s := (S : Int)) (l := (L : Int)) hnl hnx hes]
        cases hk : okKept (cut s 5 ((5 + n : Nat) : Int)) (S : Int) (L : Int) (nxF s n (S * L)) (esF s n (S * L) S) with
        | false => rfl
        | true =>
          simp only [if_true, Bool.not_true, cond_false, hasPrefix_ok, hlen, Option.bind_some]
          by_cases hst : storeB (cut s 5 ((5 + n : Nat) : Int)) (S : Int) (L : Int) (nxF s n (S * L)) (esF s n (S * L) S) = s.take (9 + n + S * L + S)
          · simp only [hst, decide_true, Bool.not_true, cond_false, true_and, if_true]
          · simp only [hst, decide_false, Bool.not_false, cond_true, true_and, if_false]; rfl
theorem implRec {s : List UInt8} (h : s.length ≤ 1048576) : impl_RecoverKepts s = some ((recL 8 s).1, (((recL 8 s).2 : Nat) : Int), true) := by
  have key : ∀ (n : Nat) (at_ : Nat) (out : List KeptD), n + out.length = 8 → at_ ≤ s.length → rounds (impl_RecoverKepts_B1 s) ((at_ : Int), out) = some (((at_ + (recL n (s.drop at_)).2 : Nat) : Int), out ++ (recL n (s.drop at_)).1) := by
    intro n
    induction n with
    | zero =>
      intro at_ out hn hat
      have hd : decide (lenI out < (8 : Int)) = false := by simp only [lenI, decide_eq_false_iff_not]; omega
      rw [rounds_eq]
      unfold impl_RecoverKepts_B1
      simp only [hd, cond_false, recL, Nat.add_zero, List.append_nil]
    | succ n ih =>
      intro at_ out hn hat
      have hd : decide (lenI out < (8 : Int)) = true := by simp only [lenI, decide_eq_true_eq]; omega
      have hcut : cut s (at_ : Int) (lenI s) = s.drop at_ := by
        unfold cut
        simp only [lenI, Int.toNat_natCast]
        rw [List.take_of_length_le (by simp)]
      have hdl : (s.drop at_).length ≤ 1048576 := by simp; omega
      have jat : (0 : Int) ≤ (at_ : Int) ∧ (at_ : Int) ≤ lenI s := by simp only [lenI]; omega
      rw [rounds_eq]
      have hstep : impl_RecoverKepts_B1 s ((at_ : Int), out) = some (match loadF (s.drop at_) with | some (k, e) => .inl (((at_ + e : Nat) : Int), out ++ [k]) | none => .inr ((at_ : Int), out)) := by
        unfold impl_RecoverKepts_B1
        simp only [hd, cond_true, guard_pos jat, hcut, impl_read2 hdl, Option.bind_some]
        cases hld : loadF (s.drop at_) with
        | none => rfl
        | some p =>
          obtain ⟨⟨a, b, c, d, f⟩, e⟩ := p
          obtain ⟨_, _, _, h4, _⟩ := loadF_inv hld
          have hg : List.length out + List.length ([(a, b, c, d, f)] : List KeptD) ≤ appMax := by simp only [List.length_singleton, appMax]; omega
          have e1 : wadd .i64 (at_ : Int) (e : Int) = ((at_ + e : Nat) : Int) := by
            simp only [List.length_drop] at h4
            rw [waddI (by omega)]; omega
          simp only [Bool.not_true, cond_false, e1, guard_pos hg]
      rw [hstep]
      unfold recL
      cases hld : loadF (s.drop at_) with
      | none => simp
      | some p =>
        obtain ⟨k, e⟩ := p
        obtain ⟨_, _, _, h4, _⟩ := loadF_inv hld
        rw [List.length_drop] at h4
        simp only
        rw [ih (at_ + e) (out ++ [k]) (by simp; omega) (by omega), List.drop_drop]
        simp
        omega
  have h1 := key 8 0 [] (by simp) (by omega)
  simp only [Int.natCast_zero, List.drop_zero, Nat.zero_add, List.nil_append] at h1
  unfold impl_RecoverKepts
  rw [h1]
  rfl

theorem implStoreAll {ks : List KeptD} (h8 : ks.length ≤ 8) (h : ∀ k ∈ ks, okK k) : impl_StoreKepts ks = some (catK ks, true) := by
  have hlen : ∀ k ∈ ks, (storeK k).length ≤ 400 := fun k hk => by
    have := okKept_len (h k hk)
    rw [storeK_len]; omega
  have hcl : ∀ i, (catK (ks.take i)).length ≤ i * 400 := fun i => by
    induction i with
    | zero => simp [catK]
    | succ i ih =>
      by_cases hi : i < ks.length
      · rw [take_snoc hi ([], 0, 0, [], []), catK_app, List.length_append]
        have := hlen _ (mem_getD hi ([], 0, 0, [], []))
        have e : catK [ks.getD i ([], 0, 0, [], [])] = storeK (ks.getD i ([], 0, 0, [], [])) := by simp [catK]
        rw [e]; omega
      · have e1 : ks.take (i + 1) = ks := List.take_of_length_le (Nat.le_succ_of_le (Nat.le_of_not_lt hi))
        have e2 : ks.take i = ks := List.take_of_length_le (Nat.le_of_not_lt hi)
        rw [e2] at ih
        rw [e1, Nat.succ_mul]
        exact Nat.le_trans ih (Nat.le_add_right _ _)
  have s2 := rounds_forS (f := impl_StoreKepts_B1 ks) (fun i (out : List UInt8) => (out, ((i : Nat) : Int))) (fun i out => out ++ storeK (ks.getD i ([], 0, 0, [], []))) (fun out => .inl out) (n := ks.length) (fun i out => out = catK (ks.take i))
    (fun i out hi ho => ⟨by
      have hm := mem_getD hi (([], 0, 0, [], []) : KeptD)
      have hk := h _ hm
      have hc := hcl i
      have hll := hlen _ hm
      rw [← ho] at hc
      unfold impl_StoreKepts_B1
      simp only [ltN hi, cond_true, guard_pos (idxN hi), Int.toNat_natCast, nextN hi (show ks.length ≤ 4294967296 by omega), Option.bind_some]
      generalize ks.getD i ([], 0, 0, [], []) = k at *
      obtain ⟨nm, s, l, nx, es⟩ := k
      have hkl := okKept_len hk
      have hk' : okKept nm s l nx es = true := hk
      have hll : (storeB nm s l nx es).length ≤ 400 := hll
      simp only at hkl
      rw [show impl_StoreKept (nm, s, l, nx, es) = some (storeB nm s l nx es, true) by rw [impl_store (by omega) (by omega) (by omega), hk']; rfl]
      simp only [Option.bind_some, Bool.not_true, cond_false]
      rw [guard_pos (by unfold appMax; omega)]
      rfl, by
      rw [ho, take_snoc hi ([], 0, 0, [], []), catK_app]; simp [catK]⟩)
    (fun out _ => by
      unfold impl_StoreKepts_B1
      simp only [geN (Nat.le_refl _), cond_false]) ks.length 0 [] (by omega) (by simp [catK])
  simp only [Int.natCast_zero] at s2
  have hd : decide (lenI ks > 8) = false := by simp only [lenI, decide_eq_false_iff_not]; omega
  unfold impl_StoreKepts
  simp only [hd, cond_false]
  rw [s2.1, s2.2, List.take_length]
  rfl

theorem eqL_self {α : Type} [BEq α] [ReflBEq α] (d : α) (xs : List α) : eqL d xs xs = true := by
  unfold eqL
  rw [beq_self_eq_true, Bool.true_and]
  exact allN_iff.2 fun i _ _ => beq_self_eq_true _

theorem implSameAll {ks : List KeptD} (h8 : ks.length ≤ 8) (h : ∀ k ∈ ks, okK k) : impl_SameKept ks ks = some true := by
  have hl := fun k hk => okKept_len (h k hk)
  unfold impl_SameKept slices_EqualFunc___impl_Kept___impl_Kept_impl_Kept_impl_Kept_fn2_impl_SameKept_1
  have s2 := rounds_all (f := slices_EqualFunc___impl_Kept___impl_Kept_impl_Kept_impl_Kept_fn2_impl_SameKept_1_B1 ks ks) (fun i => ((i : Nat) : Int)) (fun _ => true) (Sum.inl ()) (Sum.inr ()) (n := ks.length) (fun i hi => by
      have hm := hl _ (mem_getD hi (([], 0, 0, [], []) : KeptD))
      unfold slices_EqualFunc___impl_Kept___impl_Kept_impl_Kept_impl_Kept_fn2_impl_SameKept_1_B1
      simp only [ltN hi, cond_true, guard_pos (idxN hi), Int.toNat_natCast, nextN hi (show ks.length ≤ 4294967296 by omega), Option.bind_some]
      generalize ks.getD i ([], 0, 0, [], []) = k at *
      obtain ⟨nm, s, l, nx, es⟩ := k
      simp only at hm
      unfold impl_SameKept_1
      simp only [implSameP (a := s) (b := l) (xs := nx) (bs := es) (by omega) (by omega), Option.bind_some, sameP, beq_self_eq_true, eqL_self, Bool.and_self, cond_true, Bool.not_true, cond_false]) (by
      unfold slices_EqualFunc___impl_Kept___impl_Kept_impl_Kept_impl_Kept_fn2_impl_SameKept_1_B1
      simp only [geN (Nat.le_refl _), cond_false]) ks.length 0 (by omega)
  rw [show allN (fun _ => true) ks.length 0 = true from allN_iff.2 fun _ _ _ => rfl] at s2
  simp only [Int.natCast_zero] at s2
  simp only [bne_self_eq_false, cond_false, s2]
  rfl

end Go.Proofs


/-
  Machines that are drawn and kept: what the law says of them.
-/
namespace Go.Proofs
open Go.Ide Go.IntWalk

theorem okPlain_mk {m c : Nat} {nx : List Int} {es : List Bool} (m1 : 1 ≤ m) (m2 : m ≤ 64) (c1 : 1 ≤ c) (c2 : c ≤ 4) (hl : nx.length = m * c) (he : es.length = m) (h : ∀ i, i < nx.length → 0 ≤ nx.getD i 0 ∧ nx.getD i 0 < (m : Int)) : okPlain (m : Int) (c : Int) nx es = true := by
  have hmc : m * c ≤ 64 * 4 := Nat.mul_le_mul m2 c2
  unfold okPlain
  rw [wmulI (by rw [← Int.natCast_mul]; omega), ← Int.natCast_mul, wsubI (by omega)]
  simp only [Bool.and_eq_true, decide_eq_true_eq, beq_iff_eq, lenI]
  refine ⟨⟨by omega, by omega⟩, ⟨by omega, by omega⟩, by rw [hl], by rw [he], allIn_iff.2 fun i hi => ?_⟩
  have := h i hi
  omega

theorem drawPlain {g m c : Nat} {s : SrcD} (m1 : 1 ≤ m) (m2 : m ≤ 5) (c1 : 1 ≤ c) (c2 : c ≤ 3) (hs : SrcOK (100 + g) s) :
    ∃ nx es s', spec_l02DrawPlainSides s (m : Int) (c : Int) = some (((m : Int), (c : Int), nx, es), s') ∧ okPlain (m : Int) (c : Int) nx es = true ∧ SrcOK g s' := by
  have hmc : m * c ≤ 5 * 3 := Nat.mul_le_mul m2 c2
  obtain ⟨r, er, r1, r2, r3⟩ := rounds_inv (f := spec_l02DrawPlainSides_B2 (m : Int)) (fun a st => ∃ (s : SrcD) (out : List Int), st = ((a : Int), s, out) ∧ a + out.length = m * c ∧ SrcOK (a * 2 + (50 + g)) s ∧ ∀ i, i < out.length → 0 ≤ out.getD i 0 ∧ out.getD i 0 < (m : Int))
    (fun r => SrcOK (50 + g) r.1 ∧ r.2.length = m * c ∧ ∀ i, i < r.2.length → 0 ≤ r.2.getD i 0 ∧ r.2.getD i 0 < (m : Int)) (by
      rintro a st ⟨s, out, rfl, ha, hs, ho⟩
      unfold spec_l02DrawPlainSides_B2
      by_cases h0 : a = 0
      · subst h0
        have hd : decide (((0 : Nat) : Int) > (0 : Int)) = false := by simp
        simp only [hd, cond_false]
        exact .inr ⟨_, rfl, hs.mono (by omega), by show out.length = _; omega, ho⟩
      · have hd : decide ((a : Int) > (0 : Int)) = true := by simp; omega
        obtain ⟨x, s', e, x1, x2, o⟩ := pick_ok (n := (a - 1) * 2 + (50 + g)) (hs.mono (by omega)) (m : Int)
        have e1 : wsub .i64 (a : Int) 1 = ((a - 1 : Nat) : Int) := by rw [wsubI (by omega)]; omega
        simp only [hd, cond_true, e, Option.bind_some, e1]
        rw [guard_pos (by simp only [List.length_cons, List.length_nil, appMax]; omega)]
        refine .inl ⟨a - 1, _, by omega, rfl, s', out ++ [x], rfl, by simp; omega, o, fun i hi => ?_⟩
        rw [getD_app]
        split
        · rename_i hi2; exact ho i hi2
        · have : i - out.length = 0 := by simp at hi; omega
          rw [this]
          show 0 ≤ x ∧ x < (m : Int)
          omega) (m * c) (((m * c : Nat) : Int), s, ([] : List Int)) ⟨s, [], rfl, by simp, hs.mono (by omega), fun i hi => by simp at hi⟩
  obtain ⟨q, eq, q1, q2⟩ := rounds_inv (f := spec_l02DrawPlainSides_B1 (m : Int)) (fun a st => ∃ (i : Nat) (s : SrcD) (out : List Bool), a + i = m ∧ st = ((i : Int), s, out) ∧ out.length = i ∧ SrcOK (a * 2 + g) s)
    (fun r => SrcOK g r.1 ∧ r.2.length = m) (by
      rintro a st ⟨i, s, out, ha, rfl, hl, hs⟩
      unfold spec_l02DrawPlainSides_B1 spec_l00Src_one
      by_cases h0 : i < m
      · obtain ⟨x, s', e, _, _, o⟩ := pick_ok (n := (a - 1) * 2 + g) (hs.mono (by omega)) (3 : Int)
        simp only [ltN h0, cond_true, e, Option.bind_some, nextN h0 (show m ≤ 4294967296 by omega)]
        rw [guard_pos (by simp only [List.length_cons, List.length_nil, appMax]; omega)]
        exact .inl ⟨a - 1, _, by omega, rfl, i + 1, s', _, by omega, rfl, by simp; omega, o⟩
      · have : i = m := by omega
        subst this
        simp only [geN (Nat.le_refl _), cond_false]
        exact .inr ⟨_, rfl, hs.mono (by omega), hl⟩) m ((0 : Int), r.1, ([] : List Bool)) ⟨0, r.1, [], by omega, rfl, rfl, r1.mono (by omega)⟩
  refine ⟨r.2, q.2, q.1, ?_, okPlain_mk m1 (by omega) c1 (by omega) r2 q2 r3, q1⟩
  unfold spec_l02DrawPlainSides
  rw [wmulI (by rw [← Int.natCast_mul]; omega), ← Int.natCast_mul, er]
  simp only [Option.bind_some]
  rw [eq]
  rfl

theorem drawKepts {c : List Int} (hc : BytesI c) : ∃ ks, spec_B10Kepts c = some ks ∧ ks.length ≤ 4 ∧ ∀ k ∈ ks, okK k := by
  obtain ⟨ef, of⟩ := SrcOK.from hc
  obtain ⟨n, s1, e1, n1, n2, o1⟩ := pick_ok (n := 10000) (of.mono (by omega)) (5 : Int)
  obtain ⟨m, rfl⟩ : ∃ m : Nat, n = (m : Int) := ⟨n.toNat, by omega⟩
  obtain ⟨r, er, r1, r2⟩ := rounds_inv (f := spec_B10Kepts_B1) (fun a st => ∃ (s : SrcD) (out : List KeptD), st = ((a : Int), s, out) ∧ a + out.length ≤ 4 ∧ SrcOK (a * 200) s ∧ ∀ k ∈ out, okK k)
    (fun r => r.length ≤ 4 ∧ ∀ k ∈ r, okK k) (by
      rintro a st ⟨s, out, rfl, ha, hs, ho⟩
      unfold spec_B10Kepts_B1
      by_cases h0 : a = 0
      · subst h0
        have hd : decide (((0 : Nat) : Int) > (0 : Int)) = false := by simp
        simp only [hd, cond_false]
        exact .inr ⟨_, rfl, by omega, ho⟩
      · have hd : decide ((a : Int) > (0 : Int)) = true := by simp; omega
        have e0 : wsub .i64 (a : Int) 1 = ((a - 1 : Nat) : Int) := by rw [wsubI (by omega)]; omega
        obtain ⟨x, s2, e2, x1, x2, o2⟩ := pick_ok (n := (a - 1) * 200 + 104) (hs.mono (by omega)) (4 : Int)
        have ht : ∃ nm, spec_l00Src_text s ([([97] : List UInt8), ([101, 118, 101, 110] : List UInt8), ([119, 111, 114, 100] : List UInt8), ([122, 122] : List UInt8)] : List (List UInt8)) = some (nm, s2) ∧ okName nm = true := by
          have hg : (0 : Int) ≤ x ∧ x < lenI ([([97] : List UInt8), ([101, 118, 101, 110] : List UInt8), ([119, 111, 114, 100] : List UInt8), ([122, 122] : List UInt8)] : List (List UInt8)) := ⟨x1, by show x < 4; omega⟩
          have hp : spec_l00Src_pick s (lenI ([([97] : List UInt8), ([101, 118, 101, 110] : List UInt8), ([119, 111, 114, 100] : List UInt8), ([122, 122] : List UInt8)] : List (List UInt8))) = some (x, s2) := e2
          refine ⟨_, by unfold spec_l00Src_text; simp only [hp, Option.bind_some]; rw [guard_pos hg], ?_⟩
          rcases (show x = 0 ∨ x = 1 ∨ x = 2 ∨ x = 3 by omega) with rfl | rfl | rfl | rfl <;> decide
        obtain ⟨nm, et, hn⟩ := ht
        obtain ⟨y, s3, e3, y1, y2, o3⟩ := pick_ok (n := (a - 1) * 200 + 102) o2 (3 : Int)
        obtain ⟨z, s4, e4, z1, z2, o4⟩ := pick_ok (n := (a - 1) * 200 + 100) o3 (5 : Int)
        obtain ⟨M, hM, M1, M2⟩ : ∃ M : Nat, wadd .i64 (1 : Int) z = (M : Int) ∧ 1 ≤ M ∧ M ≤ 5 := ⟨(1 + z).toNat, by rw [waddI (by omega)]; omega, by omega, by omega⟩
        obtain ⟨C, hC, C1, C2⟩ : ∃ C : Nat, wadd .i64 (1 : Int) y = (C : Int) ∧ 1 ≤ C ∧ C ≤ 3 := ⟨(1 + y).toNat, by rw [waddI (by omega)]; omega, by omega, by omega⟩
        obtain ⟨nx, es, s5, e5, p5, o5⟩ := drawPlain (g := (a - 1) * 200) M1 M2 C1 C2 (o4.mono (by omega))
        simp only [hd, cond_true, et, e3, e4, hM, hC, e5, Option.bind_some, e0]
        rw [guard_pos (by simp only [List.length_cons, List.length_nil, appMax]; omega)]
        refine .inl ⟨a - 1, _, by omega, rfl, s5, _, rfl, by simp; omega, o5, fun k hk => ?_⟩
        rcases List.mem_append.1 hk with hk | hk
        · exact ho k hk
        · rcases List.mem_singleton.1 hk with rfl
          show okKept nm (M : Int) (C : Int) nx es = true
          unfold okKept
          rw [hn, p5]; rfl) m ((m : Int), s1, ([] : List KeptD)) ⟨s1, [], rfl, by simp; omega, o1.mono (by omega), by simp⟩
  refine ⟨r, ?_, r1, r2⟩
  unfold spec_B10Kepts
  simp only [ef, e1, er, Option.bind_some]

theorem implStore1 {k : KeptD} (h : okK k) : impl_StoreKept (k.1, k.2.1, k.2.2.1, k.2.2.2.1, k.2.2.2.2) = some (storeK k, true) := by
  have hkl := okKept_len h
  have hk' : okKept k.1 k.2.1 k.2.2.1 k.2.2.2.1 k.2.2.2.2 = true := h
  rw [impl_store (by omega) (by omega) (by omega), hk']; rfl

theorem storeK_le {k : KeptD} (h : okK k) : (storeK k).length ≤ 400 := by
  have := okKept_len h
  rw [storeK_len]; omega

theorem implLoad1 {k : KeptD} (h : okK k) : impl_LoadKept (storeK k) = some (k, true) := by
  have hl := storeK_le h
  have e := loadF_app h []
  rw [List.append_nil] at e
  unfold impl_LoadKept
  simp only [impl_read2 (s := storeK k) (by omega), e, Option.bind_some, Bool.not_true, cond_false, lenI, bne_self_eq_false]

theorem catK_le : ∀ {ks : List KeptD}, (∀ k ∈ ks, okK k) → (catK ks).length ≤ ks.length * 400
  | [], _ => by simp [catK]
  | k :: ks, h => by
    have h1 := storeK_le (h k (by simp))
    have h2 := catK_le (ks := ks) fun q hq => h q (by simp [hq])
    rw [catK_cons, List.length_append, List.length_cons, Nat.succ_mul]
    omega

theorem catK_step {ks : List KeptD} {i : Nat} (h : i < ks.length) : catK (ks.take (i + 1)) = catK (ks.take i) ++ storeK (ks.getD i ([], 0, 0, [], [])) := by
  rw [take_snoc h ([], 0, 0, [], []), catK_app]; simp [catK]

theorem cut_one {α : Type} {ks : List α} {i : Nat} (h : i < ks.length) (d : α) : cut ks (i : Int) ((i + 1 : Nat) : Int) = [ks.getD i d] := by
  unfold cut
  rw [Int.toNat_natCast, Int.toNat_natCast, show i + 1 - i = 1 by omega, List.drop_eq_getElem_cons h, List.take_succ_cons, List.take_zero, List.getD_eq_getElem?_getD, List.getElem?_eq_getElem h]
  rfl

theorem endsLoop {ks : List KeptD} (h4 : ks.length ≤ 4) (h : ∀ k ∈ ks, okK k) : ∃ es, rounds (laws_FnKepts_B2 ks) ((0 : Int), ([(0 : Int)] : List Int)) = some (.inl es) ∧ es.length = ks.length + 1 ∧ ∀ j, j ≤ ks.length → es.getD j 0 = (((catK (ks.take j)).length : Nat) : Int) := by
  obtain ⟨r, er, es, rfl, l, p⟩ := rounds_inv (f := laws_FnKepts_B2 ks) (fun a st => ∃ (i : Nat) (es : List Int), a + i = ks.length ∧ st = ((i : Int), es) ∧ es.length = i + 1 ∧ ∀ j, j ≤ i → es.getD j 0 = (((catK (ks.take j)).length : Nat) : Int))
    (fun r => ∃ es, r = .inl es ∧ es.length = ks.length + 1 ∧ ∀ j, j ≤ ks.length → es.getD j 0 = (((catK (ks.take j)).length : Nat) : Int)) (by
      rintro a st ⟨i, es, ha, rfl, hl, hp⟩
      unfold laws_FnKepts_B2
      by_cases hi : i < ks.length
      · have hm := mem_getD hi (([], 0, 0, [], []) : KeptD)
        have hk := h _ hm
        have hst := catK_step hi
        have hcut := cut_one hi (([], 0, 0, [], []) : KeptD)
        have hle := catK_le (ks := ks.take i) fun q hq => h q (List.mem_of_mem_take hq)
        have hle : (catK (ks.take i)).length ≤ 4 * 400 := Nat.le_trans hle (Nat.mul_le_mul_right _ (by rw [List.length_take]; omega))
        have hk8 := storeK_le hk
        simp only [ltN hi, cond_true, guard_pos (idxN hi), Int.toNat_natCast, nextN hi (show ks.length ≤ 4294967296 by omega), Option.bind_some, hcut]
        generalize ks.getD i ([], 0, 0, [], []) = k at *
        have hkl := okKept_len hk
        have hv : impl_ValidKept (k.1, k.2.1, k.2.2.1, k.2.2.2.1, k.2.2.2.2) = some true := by
          rw [impl_kept (by omega) (by omega)]; exact congrArg some hk
        have hs : impl_SameKept [(k.1, k.2.1, k.2.2.1, k.2.2.2.1, k.2.2.2.2)] [k] = some true := implSameAll (ks := [k]) (by simp) (by simpa using hk)
        have hg : (0 : Int) ≤ (i : Int) ∧ (i : Int) ≤ ((i + 1 : Nat) : Int) ∧ ((i + 1 : Nat) : Int) ≤ lenI ks := by simp only [lenI]; omega
        have e1 : wsub .i64 (lenI es) 1 = (i : Int) := by rw [wsubI (by simp only [lenI]; omega)]; simp only [lenI]; omega
        have e2 : wadd .i64 (es.getD i 0) (lenI (storeK k)) = (((catK (ks.take (i + 1))).length : Nat) : Int) := by
          rw [hp i (Nat.le_refl _), waddI (by simp only [lenI]; omega), hst, List.length_append]; simp only [lenI]; omega
        simp only [implStore1 hk, implLoad1 hk, hv, hs, guard_pos hg, Option.bind_some, Bool.not_true, cond_false, e1, Int.toNat_natCast, e2]
        rw [guard_pos (by simp only [lenI]; omega), guard_pos (by simp only [List.length_cons, List.length_nil, appMax]; omega)]
        refine .inl ⟨a - 1, _, by omega, rfl, i + 1, _, by omega, rfl, by simp; omega, fun j hj => ?_⟩
        rw [getD_app]
        split
        · rename_i hj2; exact hp j (by omega)
        · have : j = i + 1 := by omega
          subst this
          rw [hl, Nat.sub_self]; rfl
      · have : i = ks.length := by omega
        subst this
        simp only [geN (Nat.le_refl _), cond_false]
        exact .inr ⟨_, rfl, es, rfl, hl, hp⟩) ks.length ((0 : Int), ([(0 : Int)] : List Int)) ⟨0, [0], by omega, rfl, rfl, fun j hj => by
          have : j = 0 := by omega
          subst this; simp [catK]⟩
  exact ⟨es, er, l, p⟩

theorem keptLoop {ks : List KeptD} {es : List Int} {all : List UInt8 × Bool} {z1 z2 : Int} {o : Nat} (h4 : ks.length ≤ 4) (hl : es.length = ks.length + 1) (hp : ∀ j, j ≤ ks.length → es.getD j 0 = (((catK (ks.take j)).length : Nat) : Int))
    (ho : Int.tmod (wadd .i64 (wmul .i64 (256 : Int) z1) z2) (lenI all.1) = (o : Int)) (hlt : o < (catK ks).length) :
    ∃ j : Nat, rounds (laws_FnKepts_B1 ks es all z1 z2) (0 : Int) = some (j : Int) ∧ j < ks.length ∧ (catK (ks.take j)).length ≤ o ∧ o < (catK (ks.take (j + 1))).length := by
  obtain ⟨r, er, j, rfl, h1, h2, h3⟩ := rounds_inv (f := laws_FnKepts_B1 ks es all z1 z2) (fun a st => ∃ i : Nat, a + i = ks.length ∧ st = (i : Int) ∧ (catK (ks.take i)).length ≤ o)
    (fun r => ∃ j : Nat, r = (j : Int) ∧ j < ks.length ∧ (catK (ks.take j)).length ≤ o ∧ o < (catK (ks.take (j + 1))).length) (by
      rintro a st ⟨i, ha, rfl, hi⟩
      unfold laws_FnKepts_B1
      have hik : i < ks.length := by
        refine Nat.lt_of_not_le fun hge => ?_
        rw [List.take_of_length_le hge] at hi
        omega
      rw [ho]
      simp only [ltN hik, cond_true, nextN hik (show ks.length ≤ 4294967296 by omega), Int.toNat_natCast]
      rw [guard_pos (idxN (i := i + 1) (n := es.length) (by omega)), hp (i + 1) (by omega)]
      by_cases hle : (catK (ks.take (i + 1))).length ≤ o
      · have : decide ((((catK (ks.take (i + 1))).length : Nat) : Int) ≤ (o : Int)) = true := by simp; exact hle
        simp only [this, Option.bind_some, cond_true]
        exact .inl ⟨a - 1, _, by omega, rfl, i + 1, by omega, rfl, hle⟩
      · have : decide ((((catK (ks.take (i + 1))).length : Nat) : Int) ≤ (o : Int)) = false := by simp; omega
        simp only [this, Option.bind_some, cond_false]
        exact .inr ⟨_, rfl, i, rfl, hik, hi, by omega⟩) ks.length (0 : Int) ⟨0, by omega, rfl, by simp [catK]⟩
  exact ⟨j, er, h1, h2, h3⟩

theorem bytesO_I (s : List UInt8) : bytesO (bytesI s) = s := by
  unfold bytesO bytesI
  rw [List.map_map]
  refine (List.map_congr_left fun b _ => ?_).trans (List.map_id _)
  show UInt8.ofNat (((b.toNat : Nat) : Int)).toNat = b
  rw [Int.toNat_natCast]; exact UInt8.ofNat_toNat

theorem bytesO_take (L : List Int) (n : Nat) : bytesO (L.take n) = (bytesO L).take n := by
  unfold bytesO; rw [List.map_take]

theorem FnKepts_law (x0 x1 : List Int) (w0 : WfD (.sl (.int .u8)) x0) (w1 : WfD (.sl (.int .u8)) x1) : laws_FnKepts x0 x1 = some true := by
  unfold laws_FnKepts laws_b10Long
  by_cases c0 : lenI x0 > (1048576 : Int)
  · simp only [c0, decide_true, cond_true, Option.bind_some]
  · by_cases c1 : lenI x1 > (1048576 : Int)
    · simp only [c0, c1, decide_true, decide_false, cond_true, cond_false, Option.bind_some]
    · simp only [c0, c1, decide_false, cond_false, Option.bind_some]
      have b0 := bytesI_wf w0 (by simp only [lenI] at c0; omega)
      have b1 := bytesI_wf w1 (by simp only [lenI] at c1; omega)
      obtain ⟨ks, e4, h4, hok⟩ := drawKepts b0
      obtain ⟨es, eE, lE, pE⟩ := endsLoop h4 hok
      have hcl := catK_le hok
      have hcl : (catK ks).length ≤ 4 * 400 := Nat.le_trans hcl (Nat.mul_le_mul_right _ h4)
      have hst := implStoreAll (ks := ks) (by omega) hok
      have hfull : recL 8 (catK ks) = (ks, (catK ks).length) := by
        have := recL_app ks (8 - ks.length) [] hok
        rw [List.append_nil, show ks.length + (8 - ks.length) = 8 by omega, recL_none loadF_nil] at this
        rw [this]; simp
      have hrec := implRec (s := catK ks) (by omega)
      rw [hfull] at hrec
      have hsame := implSameAll (ks := ks) (by omega) hok
      have hend : es.getD ks.length 0 = lenI (catK ks) := by rw [pE _ (Nat.le_refl _), List.take_length]
      have hg1 : (0 : Int) ≤ lenI ks ∧ lenI ks < lenI es := by simp only [lenI]; omega
      have elk : (lenI ks).toNat = ks.length := by simp only [lenI, Int.toNat_natCast]
      simp only [e4, eE, hst, hrec, hsame, guard_pos hg1, elk, hend, Option.bind_some, Bool.not_true, cond_false]
      simp only [lenI, bne_self_eq_false, cond_false, Option.bind_some]
      by_cases hz : (catK ks).length = 0
      · have : (((catK ks).length : Int) == (0 : Int)) = true := by simp [hz]
        simp only [this, cond_true]
      · have : (((catK ks).length : Int) == (0 : Int)) = false := by simp only [beq_eq_false_iff_ne, ne_eq]; omega
        simp only [this, cond_false]
        obtain ⟨z1, ez1, p1, p2⟩ := b10At_ok b1 (i := 0) (n := 256) (by omega)
        obtain ⟨z2, ez2, q1, q2⟩ := b10At_ok b1 (i := 1) (n := 256) (by omega)
        obtain ⟨z3, ez3, _, _⟩ := b10At_ok b1 (i := 2) (n := 255) (by omega)
        have hZ : 0 ≤ wadd .i64 (wmul .i64 (256 : Int) z1) z2 := by rw [wmulI (by omega), waddI (by omega)]; omega
        have ht := tmod_in (n := ((catK ks).length : Int)) hZ (by omega)
        obtain ⟨o, ho⟩ : ∃ o : Nat, Int.tmod (wadd .i64 (wmul .i64 (256 : Int) z1) z2) ((catK ks).length : Int) = (o : Int) := ⟨(Int.tmod (wadd .i64 (wmul .i64 (256 : Int) z1) z2) ((catK ks).length : Int)).toNat, by omega⟩
        have hol : o < (catK ks).length := by omega
        obtain ⟨j, eJ, j1, j2, j3⟩ := keptLoop (all := (catK ks, true)) h4 lE pE ho hol
        -- what is cut
        have hsplit : catK ks = catK (ks.take j) ++ (storeK (ks.getD j ([], 0, 0, [], [])) ++ catK (ks.drop (j + 1))) := by
          rw [← List.append_assoc, ← catK_step j1, ← catK_app, List.take_append_drop]
        have hjk : ∀ k ∈ ks.take j, okK k := fun k hk => hok k (List.mem_of_mem_take hk)
        have hkj := hok _ (mem_getD j1 (([], 0, 0, [], []) : KeptD))
        have hj3 : o < (catK (ks.take j)).length + (storeK (ks.getD j ([], 0, 0, [], []))).length := by
          rw [catK_step j1, List.length_append] at j3; exact j3
        have hlj : (ks.take j).length = j := by rw [List.length_take]; omega
        have hcut : cut (catK ks) (0 : Int) (o : Int) = catK (ks.take j) ++ (storeK (ks.getD j ([], 0, 0, [], [])) ++ catK (ks.drop (j + 1))).take (o - (catK (ks.take j)).length) := by
          rw [cut0]
          conv => lhs; rw [hsplit]
          rw [List.take_append, List.take_of_length_le j2]
        have hr1 : recL 8 (cut (catK ks) (0 : Int) (o : Int)) = (ks.take j, (catK (ks.take j)).length) := by
          have hsh : loadF ((storeK (ks.getD j ([], 0, 0, [], [])) ++ catK (ks.drop (j + 1))).take (o - (catK (ks.take j)).length)) = none := by
            refine loadF_short hkj (fun i h1 h2 => ?_) (by rw [List.length_take]; omega)
            rw [List.length_take] at h1
            rw [List.getD_eq_getElem?_getD, List.getElem?_take, if_pos (by omega), ← List.getD_eq_getElem?_getD, getD_app, if_pos h2]
          have := recL_app (ks.take j) (8 - j) ((storeK (ks.getD j ([], 0, 0, [], [])) ++ catK (ks.drop (j + 1))).take (o - (catK (ks.take j)).length)) hjk
          rw [hlj, show j + (8 - j) = 8 by omega, ← hcut, recL_none hsh] at this
          rw [this]; simp
        have hrec1 := implRec (s := cut (catK ks) (0 : Int) (o : Int)) (by unfold cut; simp; omega)
        rw [hr1] at hrec1
        simp only at hrec1
        -- what is bent
        have hbl : (bytesI (catK ks)).length = (catK ks).length := bytesI_len _
        simp only [ez1, ez2, ez3, ho, eJ, Option.bind_some, Int.toNat_natCast]
        rw [guard_pos (by omega), guard_pos (by omega)]
        simp only [hrec1, Option.bind_some, Bool.not_true, cond_false]
        rw [guard_pos (by rw [lE]; omega), pE j (by omega)]
        simp only [bne_self_eq_false, cond_false, hlj, Option.bind_some]
        rw [guard_pos (by simp only [appMax]; omega), guard_pos (by rw [hbl]; omega)]
        generalize hq : (bytesI (catK ks)).set o _ = q
        have hql : q.length = (catK ks).length := by rw [← hq, List.length_set, hbl]
        have hqo : (bytesO q).length = (catK ks).length := by rw [bytesO_len, hql]
        have hpre : (bytesO q).take (catK (ks.take j)).length = catK (ks.take j) := by
          rw [← bytesO_take, ← hq, List.take_set_of_le j2, bytesO_take, bytesO_I]
          conv => lhs; rw [hsplit]
          rw [List.take_left]
        have hbent : bytesO q = catK (ks.take j) ++ (bytesO q).drop (catK (ks.take j)).length := by
          conv => lhs; rw [← List.take_append_drop (catK (ks.take j)).length (bytesO q), hpre]
        have hr2 := recL_app (ks.take j) (8 - j) ((bytesO q).drop (catK (ks.take j)).length) hjk
        rw [hlj, show j + (8 - j) = 8 by omega, ← hbent] at hr2
        have hge : j ≤ (recL 8 (bytesO q)).1.length := by rw [hr2]; simp only [List.length_append, hlj]; omega
        obtain ⟨i1, i2, i3, i4⟩ := recL_inv 8 (bytesO q)
        have hrec2 := implRec (s := bytesO q) (by omega)
        have hst2 := implStoreAll (ks := (recL 8 (bytesO q)).1) i1 i2
        simp only [hrec2, hst2, Option.bind_some, cond_true]
        have d1 : decide ((((recL 8 (bytesO q)).1.length : Nat) : Int) ≥ (j : Int)) = true := by simp; exact hge
        have d2 : decide ((((recL 8 (bytesO q)).2 : Nat) : Int) ≥ (0 : Int)) = true := by simp
        have d3 : decide ((((recL 8 (bytesO q)).2 : Nat) : Int) ≤ (q.length : Int)) = true := by simp; omega
        simp only [d1, d2, d3, cond_true]
        rw [guard_pos (by omega), Int.toNat_natCast, List.drop_zero, bytesO_take, i3, beq_self_eq_true]
        rfl

end Go.Proofs
