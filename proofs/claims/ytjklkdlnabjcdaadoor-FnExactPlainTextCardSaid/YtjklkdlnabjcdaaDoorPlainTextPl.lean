import Derived.Test.YtjklkdlnabjcdaaDoorPlainTextGenA
import Derived.Lib.ItoaLen
import Derived.Lib.Join
set_option linter.unusedVariables false
set_option linter.unusedSimpArgs false
set_option linter.unusedSectionVars false

namespace Go.Proofs
open Go.Ide Go.IntWalk

theorem szInt64S_ok {xs : List Int} {n : Int} (hx : xs.length ≤ 9223372036854775807) (hn : 0 ≤ n ∧ n ≤ 1048576) : ∃ m, laws_szInt64S xs n = some m ∧ (m < 0 ∨ (xs.length ≤ 1048576 ∧ 0 ≤ m ∧ m ≤ n)) := by
  unfold laws_szInt64S
  have e : wsub .i64 n (lenI xs) = n - (xs.length : Int) := i64_in _ (by simp only [lenI]; omega)
  rw [e]
  by_cases h : n - (xs.length : Int) < 0
  · exact ⟨-1, by simp only [h, decide_true, cond_true], .inl (by omega)⟩
  · exact ⟨_, by simp only [h, decide_false, cond_false]; rfl, .inr ⟨by omega, by omega, by omega⟩⟩

theorem szBoolS_ok {xs : List Bool} {n : Int} (hx : xs.length ≤ 9223372036854775807) (hn : 0 ≤ n ∧ n ≤ 1048576) : ∃ m, laws_szBoolS xs n = some m ∧ (m < 0 ∨ (xs.length ≤ 1048576 ∧ 0 ≤ m ∧ m ≤ n)) := by
  unfold laws_szBoolS
  have e : wsub .i64 n (lenI xs) = n - (xs.length : Int) := i64_in _ (by simp only [lenI]; omega)
  rw [e]
  by_cases h : n - (xs.length : Int) < 0
  · exact ⟨-1, by simp only [h, decide_true, cond_true], .inl (by omega)⟩
  · exact ⟨_, by simp only [h, decide_false, cond_false]; rfl, .inr ⟨by omega, by omega, by omega⟩⟩

theorem toInt64S_ok {xs : List Int} (h : xs.length ≤ 1048576) : laws_toInt64S xs = some xs := by
  unfold laws_toInt64S
  rw [guard_pos ⟨by simp only [lenI]; omega, by simp only [lenI]; omega⟩]
  have := loop_to (f := laws_toInt64S_B1 xs) xs (0 : Int) (fun i out hi hl => by
    unfold laws_toInt64S_B1
    simp only [ltN hi, cond_true, guard_pos (idxN hi), guard_pos (idxN (i := i) (n := out.length) (by omega)), Int.toNat_natCast, nextN hi (by omega)]) (fun out hl => by
    unfold laws_toInt64S_B1
    simp only [geN (Nat.le_refl _), cond_false])
  simp only [Int.toNat_natCast, this, Option.bind_some]

theorem toBoolS_ok {xs : List Bool} (h : xs.length ≤ 1048576) : laws_toBoolS xs = some xs := by
  unfold laws_toBoolS
  rw [guard_pos ⟨by simp only [lenI]; omega, by simp only [lenI]; omega⟩]
  have := loop_to (f := laws_toBoolS_B1 xs) xs false (fun i out hi hl => by
    unfold laws_toBoolS_B1
    simp only [ltN hi, cond_true, guard_pos (idxN hi), guard_pos (idxN (i := i) (n := out.length) (by omega)), Int.toNat_natCast, nextN hi (by omega)]) (fun out hl => by
    unfold laws_toBoolS_B1
    simp only [geN (Nat.le_refl _), cond_false])
  simp only [Int.toNat_natCast, this, Option.bind_some]

theorem eqInt64S_ok {xs : List Int} (h : xs.length ≤ 1048576) : laws_eqInt64S xs xs = some true := by
  unfold laws_eqInt64S
  have := loop_eq (f := laws_eqInt64S_B1 xs xs) (Sum.inl ()) xs.length (fun i hi => by
    unfold laws_eqInt64S_B1
    simp only [ltN hi, cond_true, guard_pos (idxN hi), bne_self_eq_false, cond_false, nextN hi (by omega)]) (by
    unfold laws_eqInt64S_B1
    simp only [geN (Nat.le_refl _), cond_false])
  simp only [bne_self_eq_false, cond_false, this, Option.bind_some]

theorem eqBoolS_ok {xs : List Bool} (h : xs.length ≤ 1048576) : laws_eqBoolS xs xs = some true := by
  unfold laws_eqBoolS
  have := loop_eq (f := laws_eqBoolS_B1 xs xs) (Sum.inl ()) xs.length (fun i hi => by
    unfold laws_eqBoolS_B1
    simp only [ltN hi, cond_true, guard_pos (idxN hi), bne_self_eq_false, cond_false, nextN hi (by omega)]) (by
    unfold laws_eqBoolS_B1
    simp only [geN (Nat.le_refl _), cond_false])
  simp only [bne_self_eq_false, cond_false, this, Option.bind_some]

theorem szPlain_ok {x0 : Int} {x1 : Int} {x2 : List Int} {x3 : List Bool} {n : Int} (hx2 : x2.length ≤ 9223372036854775807) (hx3 : x3.length ≤ 9223372036854775807) (hn : 0 ≤ n ∧ n ≤ 1048576) : ∃ m, laws_szPlain (x0, x1, x2, x3) n = some m ∧ (m < 0 ∨ ((x2.length ≤ 1048576 ∧ x3.length ≤ 1048576) ∧ 0 ≤ m ∧ m ≤ n)) := by
  unfold laws_szPlain
  obtain ⟨m1, h1, k1⟩ := szInt64S_ok (n := n) (xs := x2) hx2 (by omega)
  simp only [h1, Option.bind_some]
  by_cases c1 : m1 < 0
  · simp only [c1, decide_true, cond_true]; exact ⟨-1, rfl, .inl (by omega)⟩
  · obtain ⟨g1, p1, q1⟩ := k1.resolve_left c1
    simp only [c1, decide_false, cond_false]
    obtain ⟨m2, h2, k2⟩ := szBoolS_ok (n := m1) (xs := x3) hx3 (by omega)
    simp only [h2, Option.bind_some]
    by_cases c2 : m2 < 0
    · simp only [c2, decide_true, cond_true]; exact ⟨-1, rfl, .inl (by omega)⟩
    · obtain ⟨g2, p2, q2⟩ := k2.resolve_left c2
      simp only [c2, decide_false, cond_false]
      exact ⟨_, rfl, .inr ⟨⟨g1, g2⟩, by omega, by omega⟩⟩

theorem toPlain_ok {x0 : Int} {x1 : Int} {x2 : List Int} {x3 : List Bool} (hx2 : x2.length ≤ 1048576) (hx3 : x3.length ≤ 1048576) : laws_toPlain (x0, x1, x2, x3) = some (x0, x1, x2, x3) := by
  unfold laws_toPlain
  simp only [toInt64S_ok hx2, toBoolS_ok hx3, Option.bind_some]

theorem eqPlain_ok {x0 : Int} {x1 : Int} {x2 : List Int} {x3 : List Bool} (hx2 : x2.length ≤ 1048576) (hx3 : x3.length ≤ 1048576) : laws_eqPlain (x0, x1, x2, x3) (x0, x1, x2, x3) = some true := by
  unfold laws_eqPlain
  simp only [eqInt64S_ok hx2, eqBoolS_ok hx3, Option.bind_some, bne_self_eq_false, Bool.not_true, cond_false, decide_true]

end Go.Proofs


namespace Go.Proofs
open Go.Ide Go.IntWalk

theorem in64 (a b c : Int) : spec_l00In a b c = some (decide (a ≥ b) && decide (a ≤ c)) := by
  unfold spec_l00In
  cases h : decide (a ≥ b) <;> simp
theorem within64 (a b c : Int) : impl_within a b c = some (decide (a ≥ b) && decide (a ≤ c)) := by
  unfold impl_within
  cases h : decide (a ≥ b) <;> simp

def allIn (xs : List Int) (b c : Int) : Bool := xs.all fun x => decide (x ≥ b) && decide (x ≤ c)

theorem allIn_iff {xs : List Int} {b c : Int} : allIn xs b c = true ↔ ∀ i, i < xs.length → b ≤ xs.getD i 0 ∧ xs.getD i 0 ≤ c := by
  unfold allIn
  rw [List.all_eq_true]
  constructor
  · intro h i hi
    have := h xs[i] (List.getElem_mem hi)
    simp only [Bool.and_eq_true, decide_eq_true_eq] at this
    rw [List.getD_eq_getElem?_getD, List.getElem?_eq_getElem hi]
    exact ⟨this.1, this.2⟩
  · intro h x hx
    obtain ⟨i, hi, rfl⟩ := List.getElem_of_mem hx
    have := h i hi
    rw [List.getD_eq_getElem?_getD, List.getElem?_eq_getElem hi] at this
    simp only [Bool.and_eq_true, decide_eq_true_eq]
    exact ⟨this.1, this.2⟩

theorem allN_in (xs : List Int) (b c : Int) : allN (fun i => decide (xs.getD i 0 ≥ b) && decide (xs.getD i 0 ≤ c)) xs.length 0 = allIn xs b c := by
  rw [Bool.eq_iff_iff, allN_iff, allIn_iff]
  constructor
  · intro h i hi
    have := h i (by omega) (by omega)
    simp only [Bool.and_eq_true, decide_eq_true_eq] at this
    exact ⟨this.1, this.2⟩
  · intro h i _ hi
    have := h i (by omega)
    simp only [Bool.and_eq_true, decide_eq_true_eq]
    exact ⟨this.1, this.2⟩

theorem areWithin64 {xs : List Int} {b c : Int} (h : xs.length ≤ 4294967296) : impl_areWithin xs b c = some (allIn xs b c) := by
  unfold impl_areWithin
  have := rounds_all (f := impl_areWithin_B1 xs b c) (fun i => ((i : Nat) : Int)) (fun i => decide (xs.getD i 0 ≥ b) && decide (xs.getD i 0 ≤ c)) (Sum.inl ()) (Sum.inr ()) (n := xs.length) (fun i hi => by
    unfold impl_areWithin_B1
    simp only [ltN hi, cond_true, guard_pos (idxN hi), Int.toNat_natCast, within64, Option.bind_some, nextN hi h]
    cases (decide (xs.getD i 0 ≥ b) && decide (xs.getD i 0 ≤ c)) <;> rfl) (by
    unfold impl_areWithin_B1
    simp only [geN (Nat.le_refl _), cond_false]) xs.length 0 (by omega)
  rw [allN_in] at this
  simp only [Int.natCast_zero] at this
  simp only [this, Option.bind_some]
  cases allIn xs b c <;> rfl

def okPlain (s l : Int) (nx : List Int) (es : List Bool) : Bool :=
  (decide (s ≥ 1) && decide (s ≤ 64)) && ((decide (l ≥ 1) && decide (l ≤ 4)) && ((lenI nx == wmul .i64 s l) && ((lenI es == s) && allIn nx 0 (wsub .i64 s 1))))

theorem specPlain {s l : Int} {nx : List Int} {es : List Bool} (h : nx.length ≤ 4294967296) : spec_l02Plain (s, l, nx, es) = some (okPlain s l nx es) := by
  unfold spec_l02Plain okPlain
  simp only [in64, Option.bind_some]
  have := rounds_all (f := spec_l02Plain_B1 (s, l, nx, es)) (fun i => ((i : Nat) : Int)) (fun i => decide (nx.getD i 0 ≥ 0) && decide (nx.getD i 0 ≤ wsub .i64 s 1)) (Sum.inl ()) (Sum.inr ()) (n := nx.length) (fun i hi => by
    unfold spec_l02Plain_B1
    simp only [ltN hi, cond_true, guard_pos (idxN hi), Int.toNat_natCast, in64, Option.bind_some, nextN hi h]
    cases (decide (nx.getD i 0 ≥ 0) && decide (nx.getD i 0 ≤ wsub .i64 s 1)) <;> rfl) (by
    unfold spec_l02Plain_B1
    simp only [geN (Nat.le_refl _), cond_false]) nx.length 0 (by omega)
  rw [allN_in] at this
  simp only [Int.natCast_zero] at this
  simp only [this, Option.bind_some, bne]
  cases (decide (s ≥ 1) && decide (s ≤ 64)) <;> cases (decide (l ≥ 1) && decide (l ≤ 4)) <;> cases (lenI nx == wmul .i64 s l) <;> cases (lenI es == s) <;> cases allIn nx 0 (wsub .i64 s 1) <;> rfl

theorem implPlain {s l : Int} {nx : List Int} {es : List Bool} (h : nx.length ≤ 4294967296) : impl_ValidPlain (s, l, nx, es) = some (okPlain s l nx es) := by
  unfold impl_ValidPlain okPlain
  simp only [within64, areWithin64 h, Option.bind_some]
  cases (decide (s ≥ 1) && decide (s ≤ 64)) <;> cases (decide (l ≥ 1) && decide (l ≤ 4)) <;> cases (lenI nx == wmul .i64 s l) <;> cases (lenI es == s) <;> cases allIn nx 0 (wsub .i64 s 1) <;> rfl

structure Plain (m c : Nat) (nx : List Int) (es : List Bool) : Prop where
  m1 : 1 ≤ m
  m2 : m ≤ 64
  c1 : 1 ≤ c
  c2 : c ≤ 4
  len : nx.length = m * c
  ends : es.length = m
  to : ∀ i, i < m * c → ∃ t : Nat, nx.getD i 0 = (t : Int) ∧ t < m

section
variable {m c : Nat} {nx : List Int} {es : List Bool} (hp : Plain m c nx es)
include hp

end

end Go.Proofs


namespace Go.Proofs
open Go.Ide Go.IntWalk

end Go.Proofs


namespace Go.Proofs
open Go.Ide Go.IntWalk

def digI (u : Nat) : List Int := (Lib.decDigits u).map fun b => ((b.toNat : Nat) : Int)

theorem digI_small {u : Nat} (h : u < 10) : digI u = [((48 + u : Nat) : Int)] := by
  unfold digI
  rw [Lib.decDigits, dif_pos h, List.map_cons, List.map_nil, UInt8.toNat_ofNat', Nat.mod_eq_of_lt (by omega)]

theorem digI_big {u : Nat} (h : ¬ u < 10) : digI u = digI (u / 10) ++ [((48 + u % 10 : Nat) : Int)] := by
  unfold digI
  rw [Lib.decDigits, dif_neg h, List.map_append, List.map_cons, List.map_nil, UInt8.toNat_ofNat', Nat.mod_eq_of_lt (by omega)]

theorem bytesO_digI (u : Nat) : bytesO (digI u) = Lib.decDigits u := by
  unfold bytesO digI
  rw [List.map_map]
  conv => rhs; rw [← List.map_id (Lib.decDigits u)]
  apply List.map_congr_left
  intro b _
  simp

theorem dec_step {m : Int} {u : Nat} {ds : List Int} (h1 : m.natAbs = u) (h2 : u ≤ 9223372036854775808) (h3 : m ≤ 9223372036854775807) (h4 : ds = [] ∨ m ≠ 0) (h5 : ds.length ≤ 1000) :
    spec_l01Dec_B1 (m, ds) = some (.inl (Int.tdiv m 10, ((48 + u % 10 : Nat) : Int) :: ds)) := by
  have e0 : (bif (lenI ds == 0) then some true else some (m != 0)) = some true := by
    rcases h4 with rfl | h
    · rfl
    · have : (m != 0) = true := by simpa using h
      rw [this]; cases (lenI ds == 0) <;> rfl
  have e1 : (bif decide (Int.tmod m 10 < 0) then some (IntKind.wrap .i64 (0 - Int.tmod m 10)) else some (Int.tmod m 10)) = some ((u % 10 : Nat) : Int) := by
    rcases Int.natAbs_eq m with e | e
    · rw [e, h1]
      have : Int.tmod (u : Int) 10 = ((u % 10 : Nat) : Int) := rfl
      rw [this, show decide (((u % 10 : Nat) : Int) < 0) = false by simp only [decide_eq_false_iff_not]; omega, cond_false]
    · rw [e, h1]
      have : Int.tmod (-(u : Int)) 10 = -((u % 10 : Nat) : Int) := by rw [Int.neg_tmod]; rfl
      rw [this]
      by_cases hz : u % 10 = 0
      · rw [hz]; rfl
      · rw [show decide (-((u % 10 : Nat) : Int) < 0) = true by simp only [decide_eq_true_eq]; omega, cond_true, i64_in _ (by omega)]
        congr 1
        omega
  have e2 : IntKind.wrap .i64 (Int.tdiv m 10) = Int.tdiv m 10 := by
    apply i64_in
    rcases Int.natAbs_eq m with e | e
    · rw [e, h1]
      have : Int.tdiv (u : Int) 10 = ((u / 10 : Nat) : Int) := rfl
      rw [this]; omega
    · rw [e, h1]
      have : Int.tdiv (-(u : Int)) 10 = -((u / 10 : Nat) : Int) := by rw [Int.neg_tdiv]; rfl
      rw [this]; omega
  have e3 : IntKind.wrap .u8 (wadd .i64 48 ((u % 10 : Nat) : Int)) = ((48 + u % 10 : Nat) : Int) := by
    rw [waddI (by omega), u8_in _ (by omega)]; omega
  unfold spec_l01Dec_B1
  simp only [e0, Option.bind_some, cond_true, e1, e2, e3]
  rw [guard_pos (by simp only [List.length_cons, List.length_nil]; unfold appMax; omega)]
  rfl

theorem dec_end {ds : List Int} (h : ds ≠ []) : spec_l01Dec_B1 (0, ds) = some (.inr ds) := by
  have e : (lenI ds == 0) = false := by
    rw [beq_eq_false_iff_ne]
    have := List.length_pos_iff.2 h
    simp only [lenI]; omega
  unfold spec_l01Dec_B1
  simp only [e, cond_false, bne_self_eq_false, Option.bind_some]

theorem tdiv_abs (m : Int) : (Int.tdiv m 10).natAbs = m.natAbs / 10 := by
  rw [Int.natAbs_tdiv]; rfl

theorem dec_rounds : ∀ (u : Nat) (m : Int) (ds : List Int), m.natAbs = u → (ds = [] ∨ u ≠ 0) → u ≤ 9223372036854775808 → m ≤ 9223372036854775807 → ds.length + Lib.nDigits u ≤ 1000 →
    rounds (spec_l01Dec_B1) (m, ds) = some (digI u ++ ds) := by
  intro u
  induction u using Nat.strongRecOn with
  | _ u ih =>
    intro m ds h1 h2 h3 h4 h5
    rw [rounds_eq, dec_step h1 h3 h4 (h2.imp id fun h e => h (by rw [← h1, e]; rfl)) (by omega)]
    show rounds _ _ = _
    by_cases hu : u < 10
    · have e : Int.tdiv m 10 = 0 := by
        have := tdiv_abs m
        omega
      rw [e, rounds_eq, dec_end (by simp), digI_small hu, Nat.mod_eq_of_lt hu]
      rfl
    · have hn : Lib.nDigits u = Lib.nDigits (u / 10) + 1 := by rw [Lib.nDigits, dif_neg hu]
      rw [ih (u / 10) (by omega) _ _ (by rw [tdiv_abs, h1]) (.inr (by omega)) (by omega) (by
        have := tdiv_abs m
        omega) (by simp only [List.length_cons]; omega), digI_big hu]
      simp

theorem nDigits_le {n : Int} (h : -9223372036854775808 ≤ n ∧ n ≤ 9223372036854775807) : Lib.nDigits n.natAbs ≤ 21 := by
  have := Lib.itoa_length_le n h.1 h.2
  unfold Lib.itoa at this
  split at this
  · rw [List.length_cons, Lib.decDigits_length] at this
    omega
  · rw [Lib.decDigits_length, show n.toNat = n.natAbs by omega] at this
    exact this

theorem dec_ok {n : Int} (h : -9223372036854775808 ≤ n ∧ n ≤ 9223372036854775807) : spec_l01Dec n = some (Lib.itoa n) := by
  have hd := nDigits_le h
  unfold spec_l01Dec
  rw [dec_rounds n.natAbs n [] rfl (.inl rfl) (by omega) h.2 (by simp; omega), Option.bind_some, List.append_nil]
  unfold Lib.itoa
  by_cases hn : n < 0
  · rw [show decide (n < 0) = true by simpa using hn, cond_true, if_pos hn, guard_pos (by
      simp only [List.length_cons, List.length_nil]
      unfold digI appMax
      rw [List.length_map, Lib.decDigits_length]
      omega), Option.bind_some]
    show some (bytesO (45 :: digI n.natAbs)) = _
    rw [← bytesO_digI]
    rfl
  · rw [show decide (n < 0) = false by simpa using hn, cond_false, Option.bind_some, bytesO_digI, if_neg hn, show n.toNat = n.natAbs by omega]

theorem impl_dec {n : Int} (h : -9223372036854775808 ≤ n ∧ n ≤ 9223372036854775807) : impl_Decimal n = some (Lib.itoa n) := by
  unfold impl_Decimal strconv_FormatInt
  rw [guard_pos (show _ ∧ _ ∧ _ from ⟨rfl, h.1, h.2⟩)]
  rfl

end Go.Proofs


namespace Go.Proofs
open Go.Ide Go.IntWalk

def jn (p : List UInt8) : List (List UInt8) → List UInt8
  | [] => []
  | x :: [] => x
  | x :: y :: r => x ++ p ++ jn p (y :: r)

theorem jn_join (p : List UInt8) : ∀ l : List (List UInt8), Lib.join l p = jn p l
  | [] => rfl
  | [x] => by simp [Lib.join, jn, List.intercalate]
  | x :: y :: r => by
    have ih := jn_join p (y :: r)
    unfold Lib.join List.intercalate at ih
    unfold Lib.join List.intercalate jn
    rw [← ih]
    simp [List.intersperse]

theorem jn_snoc (p x : List UInt8) : ∀ l : List (List UInt8), l ≠ [] → jn p (l ++ [x]) = jn p l ++ (p ++ x)
  | [], h => absurd rfl h
  | [y], _ => by simp [jn]
  | y :: z :: r, _ => by
    have ih := jn_snoc p x (z :: r) (by simp)
    simp only [List.cons_append] at ih ⊢
    simp only [jn, ih, List.append_assoc]

theorem jn_len {p : List UInt8} {k : Nat} : ∀ l : List (List UInt8), (∀ x ∈ l, x.length ≤ k) → (jn p l).length ≤ l.length * (k + p.length)
  | [], _ => by simp [jn]
  | [x], h => by
    have := h x (by simp)
    simp [jn]; omega
  | x :: y :: r, h => by
    have ih := jn_len (p := p) (y :: r) fun z hz => h z (List.mem_cons_of_mem _ hz)
    have := h x (by simp)
    simp only [jn, List.length_append]
    rw [List.length_cons, Nat.succ_mul]
    omega

def i64R (n : Int) : Prop := -9223372036854775808 ≤ n ∧ n ≤ 9223372036854775807

def tx (xs : List Int) : List UInt8 := if xs = [] then [110, 111, 110, 101] else jn [44] (xs.map Lib.itoa)

theorem itoa21 {n : Int} (h : i64R n) : (Lib.itoa n).length ≤ 21 := Lib.itoa_length_le n h.1 h.2

theorem jnI_len {xs : List Int} (h : ∀ x ∈ xs, i64R x) : (jn [44] (xs.map Lib.itoa)).length ≤ xs.length * 22 := by
  have := jn_len (p := [44]) (k := 21) (xs.map Lib.itoa) fun x hx => by
    obtain ⟨n, hn, rfl⟩ := List.mem_map.1 hx
    exact itoa21 (h n hn)
  simpa using this

theorem tx_len {xs : List Int} (h : ∀ x ∈ xs, i64R x) : (tx xs).length ≤ xs.length * 22 + 4 := by
  unfold tx
  split
  · simp
  · have := jnI_len h
    omega

theorem getD_mem {xs : List Int} {i : Nat} (h : i < xs.length) : xs.getD i 0 ∈ xs := by
  rw [List.getD_eq_getElem?_getD, List.getElem?_eq_getElem h]
  exact List.getElem_mem h

theorem specText {xs : List Int} (h : xs.length ≤ 1048576) (hv : ∀ x ∈ xs, i64R x) : spec_l01Text xs = some (tx xs) := by
  unfold spec_l01Text tx
  by_cases e : xs = []
  · subst e; rfl
  · have hp := List.length_pos_iff.2 e
    rw [if_neg e, show (lenI xs == 0) = false by rw [beq_eq_false_iff_ne]; simp only [lenI]; omega, cond_false, guard_pos (show _ ∧ _ from ⟨by omega, by simp only [lenI]; omega⟩)]
    have h0 : spec_l01Dec (List.getD xs (Int.toNat 0) 0) = some (Lib.itoa (xs.getD 0 0)) := dec_ok (hv _ (getD_mem hp))
    rw [h0, Option.bind_some]
    obtain ⟨r, h1, h2⟩ : ∃ r, rounds (spec_l01Text_B1 xs) (Lib.itoa (xs.getD 0 0), (1 : Int)) = some r ∧ r = jn [44] (xs.map Lib.itoa) := by
      refine rounds_inv (f := spec_l01Text_B1 xs) (fun (n : Nat) (s : List UInt8 × Int) => ∃ i : Nat, s = (jn [44] ((xs.take i).map Lib.itoa), (i : Int)) ∧ 1 ≤ i ∧ i ≤ xs.length ∧ n = xs.length - i) (fun r => r = jn [44] (xs.map Lib.itoa)) (fun n s hR => ?_) (xs.length - 1) _ ⟨1, ?_, Nat.le_refl _, hp, rfl⟩
      · obtain ⟨i, rfl, k1, k2, rfl⟩ := hR
        have hl : (jn [44] ((xs.take i).map Lib.itoa)).length ≤ i * 22 := by
          have := jnI_len (xs := xs.take i) fun x hx => hv x (List.mem_of_mem_take hx)
          rw [List.length_take, Nat.min_eq_left k2] at this
          exact this
        by_cases hi : i < xs.length
        · left
          have hd := hv _ (getD_mem hi)
          have h21 := itoa21 hd
          refine ⟨xs.length - (i + 1), (jn [44] ((xs.take (i + 1)).map Lib.itoa), ((i + 1 : Nat) : Int)), by omega, ?_, i + 1, rfl, by omega, hi, rfl⟩
          unfold spec_l01Text_B1
          simp only [show decide ((i : Int) < lenI xs) = true from ltN hi, cond_true, guard_pos (idxN hi), Int.toNat_natCast, dec_ok hd, Option.bind_some]
          rw [guard_pos (by simp only [List.length_cons, List.length_nil]; unfold appMax; omega), guard_pos (by simp only [List.length_append, List.length_cons, List.length_nil]; unfold appMax; omega), nextN hi (by omega)]
          congr 3
          rw [take_snoc hi 0, List.map_append]
          exact (jn_snoc _ _ _ (by
            intro q
            have := congrArg List.length q
            simp only [List.length_map, List.length_take, List.length_nil] at this
            omega)).symm
        · right
          have : i = xs.length := by omega
          subst this
          refine ⟨_, ?_, rfl⟩
          unfold spec_l01Text_B1
          simp only [show decide (((xs.length : Nat) : Int) < lenI xs) = false from geN (Nat.le_refl _), cond_false, List.take_length]
      · cases xs with
        | nil => exact absurd rfl e
        | cons x r => simp [jn]
    rw [h1, h2]; rfl

def okVals (xs : List Int) : Bool := allIn xs (-1000000000000000) 1000000000000000 && decide (lenI xs ≤ 64)

theorem specList {xs : List Int} (h : xs.length ≤ 4294967296) : spec_l01List xs = some (okVals xs) := by
  unfold spec_l01List okVals
  have := rounds_all (f := spec_l01List_B1 xs) (fun i => ((i : Nat) : Int)) (fun i => decide (xs.getD i 0 ≥ -1000000000000000) && decide (xs.getD i 0 ≤ 1000000000000000)) (Sum.inl ()) (Sum.inr ()) (n := xs.length) (fun i hi => by
    unfold spec_l01List_B1
    simp only [ltN hi, cond_true, guard_pos (idxN hi), Int.toNat_natCast, in64, Option.bind_some, nextN hi h]
    cases (decide (xs.getD i 0 ≥ -1000000000000000) && decide (xs.getD i 0 ≤ 1000000000000000)) <;> rfl) (by
    unfold spec_l01List_B1
    simp only [geN (Nat.le_refl _), cond_false]) xs.length 0 (by omega)
  rw [allN_in] at this
  simp only [Int.natCast_zero] at this
  simp only [this, Option.bind_some]
  cases allIn xs (-1000000000000000) 1000000000000000 <;> simp

theorem implVals {xs : List Int} (h : xs.length ≤ 4294967296) : impl_areValues xs = some (okVals xs) := by
  unfold impl_areValues okVals
  have := rounds_all (f := impl_areValues_B1 xs) (fun i => ((i : Nat) : Int)) (fun i => decide (xs.getD i 0 ≥ -1000000000000000) && decide (xs.getD i 0 ≤ 1000000000000000)) (Sum.inl ()) (Sum.inr ()) (n := xs.length) (fun i hi => by
    unfold impl_areValues_B1 impl_isValue
    simp only [ltN hi, cond_true, guard_pos (idxN hi), Int.toNat_natCast, within64, Option.bind_some, nextN hi h]
    cases (decide (xs.getD i 0 ≥ -1000000000000000) && decide (xs.getD i 0 ≤ 1000000000000000)) <;> rfl) (by
    unfold impl_areValues_B1
    simp only [geN (Nat.le_refl _), cond_false]) xs.length 0 (by omega)
  rw [allN_in] at this
  simp only [Int.natCast_zero] at this
  simp only [this, Option.bind_some]
  cases allIn xs (-1000000000000000) 1000000000000000 <;> simp

theorem allIn_mem {xs : List Int} {b c : Int} : allIn xs b c = true ↔ ∀ x ∈ xs, b ≤ x ∧ x ≤ c := by
  unfold allIn
  rw [List.all_eq_true]
  simp only [Bool.and_eq_true, decide_eq_true_eq]

theorem okVals_spec {xs : List Int} (h : okVals xs = true) : (∀ x ∈ xs, i64R x) ∧ xs.length ≤ 64 := by
  unfold okVals at h
  simp only [Bool.and_eq_true, decide_eq_true_eq, lenI] at h
  exact ⟨fun x hx => by
    have := allIn_mem.1 h.1 x hx
    unfold i64R; omega, by omega⟩

theorem implTexts {xs : List Int} (h : xs.length ≤ 1048576) (hv : ∀ x ∈ xs, i64R x) : impl_listText xs = some (tx xs) := by
  have hl := jnI_len hv
  have := rounds_forS (f := impl_listText_B1 xs) (fun i (s : List (List UInt8)) => (((i : Nat) : Int), s)) (fun i s => s ++ [Lib.itoa (xs.getD i 0)]) id (n := xs.length) (fun i s => s = (xs.take i).map Lib.itoa) (fun i s hi hs => ⟨by
    have hsl : s.length ≤ i := by rw [hs, List.length_map, List.length_take]; omega
    unfold impl_listText_B1
    simp only [show decide ((i : Int) < lenI xs) = true from ltN hi, cond_true, guard_pos (idxN hi), Int.toNat_natCast, impl_dec (hv _ (getD_mem hi)), Option.bind_some]
    rw [guard_pos (by simp only [List.length_cons, List.length_nil]; unfold appMax; omega), nextN hi (by omega)], by
    rw [hs, take_snoc hi 0, List.map_append]; rfl⟩) (fun s _ => by
    unfold impl_listText_B1
    simp only [show decide (((xs.length : Nat) : Int) < lenI xs) = false from geN (Nat.le_refl _), cond_false]; rfl) xs.length 0 [] (by omega) (by simp)
  obtain ⟨h1, h2⟩ := this
  rw [List.take_length] at h2
  simp only [Int.natCast_zero, id, h2] at h1
  unfold impl_listText
  rw [h1, Option.bind_some]
  unfold impl_joined tx
  by_cases e : xs = []
  · subst e; rfl
  · have hp := List.length_pos_iff.2 e
    rw [if_neg e, show (lenI (xs.map Lib.itoa) == 0) = false by rw [beq_eq_false_iff_ne]; simp only [lenI, List.length_map]; omega, cond_false]
    unfold strings_Join
    rw [jn_join, guard_pos (show _ ∧ _ from ⟨by rw [List.length_map]; omega, by omega⟩)]
    rfl

theorem implListText {xs : List Int} (h : xs.length ≤ 1048576) : impl_ListText xs = some (bif okVals xs then (tx xs, true) else ([], false)) := by
  unfold impl_ListText
  rw [implVals (by omega), Option.bind_some]
  cases e : okVals xs with
  | false => rfl
  | true =>
    rw [implTexts h (okVals_spec e).1]
    rfl

theorem implListTexts {ls : List (List Int)} (h : ls.length ≤ 1000) (hl : ∀ l ∈ ls, l.length ≤ 1048576) : impl_listTexts ls = some (bif ls.all okVals then (jn [59] (ls.map tx), true) else ([], false)) := by
  obtain ⟨r, h1, h2⟩ : ∃ r, rounds (impl_listTexts_B1 ls) ((0 : Int), ([] : List (List UInt8))) = some r ∧ r = bif ls.all okVals then .inl (ls.map tx) else .inr () := by
    refine rounds_inv (f := impl_listTexts_B1 ls) (fun (n : Nat) (s : Int × List (List UInt8)) => ∃ i : Nat, s = ((i : Int), (ls.take i).map tx) ∧ i ≤ ls.length ∧ n = ls.length - i ∧ (ls.take i).all okVals = true) (fun r => r = bif ls.all okVals then .inl (ls.map tx) else .inr ()) (fun n s hR => ?_) ls.length _ ⟨0, by simp, Nat.zero_le _, rfl, by simp⟩
    obtain ⟨i, rfl, k1, rfl, k3⟩ := hR
    by_cases hi : i < ls.length
    · have hm : ls.getD i [] ∈ ls := by
        rw [List.getD_eq_getElem?_getD, List.getElem?_eq_getElem hi]; exact List.getElem_mem hi
      cases e : okVals (ls.getD i []) with
      | true =>
        left
        refine ⟨ls.length - (i + 1), (((i + 1 : Nat) : Int), (ls.take (i + 1)).map tx), by omega, ?_, i + 1, rfl, hi, rfl, by rw [take_snoc hi [], List.all_append, k3, List.all_cons, e]; rfl⟩
        unfold impl_listTexts_B1
        simp only [show decide ((i : Int) < lenI ls) = true from ltN hi, cond_true, guard_pos (idxN hi), Int.toNat_natCast, implListText (hl _ hm), e, Option.bind_some, Bool.not_true, cond_false]
        rw [guard_pos (by simp only [List.length_map, List.length_take, List.length_cons, List.length_nil]; unfold appMax; omega), nextN hi (by omega), take_snoc hi [], List.map_append]
        rfl
      | false =>
        right
        refine ⟨.inr (), ?_, ?_⟩
        · unfold impl_listTexts_B1
          simp only [show decide ((i : Int) < lenI ls) = true from ltN hi, cond_true, guard_pos (idxN hi), Int.toNat_natCast, implListText (hl _ hm), e, Option.bind_some, Bool.not_false, cond_true, cond_false]
        · have : ls.all okVals = false := by
            rw [Bool.eq_false_iff]
            intro q
            rw [List.all_eq_true] at q
            rw [q _ hm] at e; cases e
          rw [this]; rfl
    · right
      have : i = ls.length := by omega
      subst this
      rw [List.take_length] at k3 ⊢
      refine ⟨.inl (ls.map tx), ?_, by rw [k3]; rfl⟩
      unfold impl_listTexts_B1
      simp only [show decide (((ls.length : Nat) : Int) < lenI ls) = false from geN (Nat.le_refl _), cond_false]
  unfold impl_listTexts
  rw [h1, h2]
  cases e : ls.all okVals with
  | false => rfl
  | true =>
    simp only [cond_true, Option.bind_some]
    have hj : (jn [59] (ls.map tx)).length ≤ (ls.map tx).length * (1412 + 1) := jn_len (p := [59]) (ls.map tx) fun x hx => by
      obtain ⟨l, hl', rfl⟩ := List.mem_map.1 hx
      obtain ⟨q1, q2⟩ := okVals_spec (List.all_eq_true.1 e l hl')
      have := tx_len q1
      omega
    rw [List.length_map] at hj
    unfold strings_Join
    rw [jn_join, guard_pos (show _ ∧ _ from ⟨by rw [List.length_map]; omega, by omega⟩)]
    rfl

end Go.Proofs


namespace Go.Proofs
open Go.Ide Go.IntWalk

theorem okPair {s l : Int} (hs : -1000000000000000 ≤ s ∧ s ≤ 1000000000000000) (hl : -1000000000000000 ≤ l ∧ l ≤ 1000000000000000) : okVals [s, l] = true := by
  unfold okVals
  rw [Bool.and_eq_true, allIn_mem]
  refine ⟨fun x hx => ?_, by simp [lenI]⟩
  simp only [List.mem_cons, List.not_mem_nil, or_false] at hx
  rcases hx with rfl | rfl <;> omega

theorem guard_app {β : Type} {a b : List UInt8} {k : Option β} (h : a.length + b.length ≤ 1000000000) : guardP (List.length a + List.length b ≤ appMax) k = k :=
  guard_pos (by unfold appMax; omega)

theorem tx64 {xs : List Int} (h : okVals xs = true) : (tx xs).length ≤ 1412 := by
  obtain ⟨q1, q2⟩ := okVals_spec h
  have := tx_len q1
  omega

theorem plainLoop {s l : Int} {nx : List Int} {es : List Bool} : spec_l08Plain_B1 (s, l, nx, es) = impl_PlainText_B1 (s, l, nx, es) := rfl

theorem plainEnds {s l : Int} {nx : List Int} {es : List Bool} {acc : List UInt8} (h : es.length ≤ 1048576) (ha : acc.length ≤ 1000000) : ∃ r, rounds (impl_PlainText_B1 (s, l, nx, es)) (acc, (0 : Int)) = some r := by
  have := rounds_forS (f := impl_PlainText_B1 (s, l, nx, es)) (fun i (t : List UInt8) => (t, ((i : Nat) : Int))) (fun i t => t ++ bif es.getD i false then [49] else [48]) id (n := es.length) (fun i t => t.length ≤ 1000000 + i) (fun i t hi ht => ⟨by
    unfold impl_PlainText_B1
    simp only [show decide ((i : Int) < lenI es) = true from ltN hi, cond_true, guard_pos (idxN hi), Int.toNat_natCast]
    cases es.getD i false with
    | true =>
      simp only [cond_true]
      rw [guard_app (by simp only [List.length_cons, List.length_nil]; omega), nextN hi (by omega)]; rfl
    | false =>
      simp only [cond_false]
      rw [guard_app (by simp only [List.length_cons, List.length_nil]; omega), nextN hi (by omega)]; rfl, by
    rw [List.length_append]
    cases es.getD i false <;> simp <;> omega⟩) (fun t _ => by
    unfold impl_PlainText_B1
    simp only [show decide (((es.length : Nat) : Int) < lenI es) = false from geN (Nat.le_refl _), cond_false]; rfl) es.length 0 acc (by omega) (by omega)
  exact ⟨_, this.1⟩

theorem PlainText_eq {x0_0 x0_1 : Int} {x0_2 : List Int} {x0_3 : List Bool} (h2 : x0_2.length ≤ 1048576) (h3 : x0_3.length ≤ 1048576) :
    ∃ r, spec_PlainText (x0_0, x0_1, x0_2, x0_3) = some r ∧ impl_PlainText (x0_0, x0_1, x0_2, x0_3) = some r := by
  unfold spec_PlainText impl_PlainText
  simp only [specPlain (s := x0_0) (l := x0_1) (nx := x0_2) (es := x0_3) (by omega), implPlain (s := x0_0) (l := x0_1) (nx := x0_2) (es := x0_3) (by omega), Option.bind_some]
  cases e : okPlain x0_0 x0_1 x0_2 x0_3 with
  | false => exact ⟨_, rfl, rfl⟩
  | true =>
    have hv := e
    unfold okPlain at hv
    simp only [Bool.and_eq_true, decide_eq_true_eq] at hv
    obtain ⟨⟨a1, a2⟩, ⟨b1, b2⟩, _⟩ := hv
    have hp : okVals [x0_0, x0_1] = true := okPair (by omega) (by omega)
    simp only [Bool.not_true, cond_false, Option.bind_some, specList (xs := x0_2) (by omega)]
    rw [implListTexts (by simp) (fun l hl => by
      simp only [List.mem_cons, List.not_mem_nil, or_false] at hl
      rcases hl with rfl | rfl
      · simp
      · omega)]
    simp only [List.all_cons, hp, List.all_nil, Bool.true_and, Bool.and_true, Option.bind_some]
    cases e2 : okVals x0_2 with
    | false => exact ⟨_, rfl, rfl⟩
    | true =>
      have t1 := tx64 hp; have t2 := tx64 e2
      obtain ⟨r, hr⟩ := plainEnds (s := x0_0) (l := x0_1) (nx := x0_2) (es := x0_3) (acc := tx [x0_0, x0_1] ++ [59] ++ tx x0_2 ++ [59]) h3 (by simp only [List.length_append, List.length_cons, List.length_nil]; omega)
      refine ⟨(r, true), ?_, ?_⟩
      · unfold spec_l08Plain
        simp only [Bool.not_true, cond_false, specText (xs := [x0_0, x0_1]) (by simp) (okVals_spec hp).1, specText (xs := x0_2) (by omega) (okVals_spec e2).1, Option.bind_some]
        rw [guard_app (by simp only [List.length_append, List.length_cons, List.length_nil]; omega), guard_app (by simp only [List.length_append, List.length_cons, List.length_nil]; omega), guard_app (by simp only [List.length_append, List.length_cons, List.length_nil]; omega), plainLoop, hr]
        rfl
      · simp only [cond_true, Bool.not_true, cond_false, List.map_cons, List.map_nil, jn]
        rw [guard_app (by simp only [List.length_append, List.length_cons, List.length_nil]; omega), hr]
        rfl

end Go.Proofs


namespace Go.Proofs
open Go.Ide Go.IntWalk

theorem PlainText_law (x0 : Int × Int × List Int × List Bool) (w0 : WfD (.st (.pair tI (.pair tI (.pair tLI (.sl .bool))))) x0) : laws_FnExactPlainText x0 = some true := by
  obtain ⟨x0_0, ⟨x0_1, ⟨x0_2, x0_3⟩⟩⟩ := x0
  have hx0_2 : x0_2.length ≤ 9223372036854775807 := Nat.le_trans (w0.2.2.1.1) (by decide)
  have hx0_3 : x0_3.length ≤ 9223372036854775807 := Nat.le_trans (w0.2.2.2.1) (by decide)
  unfold laws_FnExactPlainText
  obtain ⟨m1, a1, b1⟩ := szPlain_ok (n := 1048576) (x0 := x0_0) (x1 := x0_1) (x2 := x0_2) (x3 := x0_3) hx0_2 hx0_3 (by omega)
  simp only [a1, Option.bind_some]
  by_cases c1 : m1 < 0
  · simp only [c1, decide_true, cond_true]
  · obtain ⟨⟨ox0_2, ox0_3⟩, d1, f1⟩ := b1.resolve_left c1
    simp only [c1, decide_false, cond_false]
    obtain ⟨⟨r0_0, r1_0⟩, k1, k2⟩ := PlainText_eq (x0_0 := x0_0) (x0_1 := x0_1) (x0_2 := x0_2) (x0_3 := x0_3) ox0_2 ox0_3
    simp only [k1,
      k2,
      Option.bind_some,
      Bool.not_true,
      cond_false,
      bne_self_eq_false,
      cond_true,
      toPlain_ok (x0 := x0_0) (x1 := x0_1) (x2 := x0_2) (x3 := x0_3) ox0_2 ox0_3,
      eqPlain_ok (x0 := x0_0) (x1 := x0_1) (x2 := x0_2) (x3 := x0_3) ox0_2 ox0_3]

end Go.Proofs
