import Derived.Test.YtjklkdlnabjcdaaDoorMachineTextGenA
import Derived.Lib.ItoaLen
import Derived.Lib.Join
set_option linter.unusedVariables false
set_option linter.unusedSimpArgs false
set_option linter.unusedSectionVars false

namespace Go.Proofs
open Go.Ide Go.IntWalk

theorem szInt64S_ok {xs : List Int} {n : Int} (hx : xs.length ≤ 9223372036854775807) (hn : 0 ≤ n ∧ n ≤ 1048576) : ∃ m, laws_szInt64S xs n = some m ∧ (m < 0 ∨ (xs.length ≤ 1048576 ∧ 0 ≤ m ∧ m ≤ n)) := by
  unfold laws_szInt64S
  have e : wsub .i64 n (lenI xs) = n - (xs.length : Int) := i64_in _ (by simp only [lenI]; omega)
  rw [e]
  by_cases h : n - (xs.length : Int) < 0
  · exact ⟨-1, by simp only [h, decide_true, cond_true], .inl (by omega)⟩
  · exact ⟨_, by simp only [h, decide_false, cond_false]; rfl, .inr ⟨by omega, by omega, by omega⟩⟩

theorem toInt64S_ok {xs : List Int} (h : xs.length ≤ 1048576) : laws_toInt64S xs = some xs := by
  unfold laws_toInt64S
  rw [guard_pos ⟨by simp only [lenI]; omega, by simp only [lenI]; omega⟩]
  have := loop_to (f := laws_toInt64S_B1 xs) xs (0 : Int) (fun i out hi hl => by
    unfold laws_toInt64S_B1
    simp only [ltN hi, cond_true, guard_pos (idxN hi), guard_pos (idxN (i := i) (n := out.length) (by omega)), Int.toNat_natCast, nextN hi (by omega)]) (fun out hl => by
    unfold laws_toInt64S_B1
    simp only [geN (Nat.le_refl _), cond_false])
  simp only [Int.toNat_natCast, this, Option.bind_some]

theorem toArc_ok {x0 : Int} {x1 : Int} {x2 : Int} {x3 : Int}  : laws_toArc (x0, x1, x2, x3) = some (x0, x1, x2, x3) := by
  unfold laws_toArc
  rfl

theorem eqInt64S_ok {xs : List Int} (h : xs.length ≤ 1048576) : laws_eqInt64S xs xs = some true := by
  unfold laws_eqInt64S
  have := loop_eq (f := laws_eqInt64S_B1 xs xs) (Sum.inl ()) xs.length (fun i hi => by
    unfold laws_eqInt64S_B1
    simp only [ltN hi, cond_true, guard_pos (idxN hi), bne_self_eq_false, cond_false, nextN hi (by omega)]) (by
    unfold laws_eqInt64S_B1
    simp only [geN (Nat.le_refl _), cond_false])
  simp only [bne_self_eq_false, cond_false, this, Option.bind_some]

theorem eqArc_ok {x0 : Int} {x1 : Int} {x2 : Int} {x3 : Int}  : laws_eqArc (x0, x1, x2, x3) (x0, x1, x2, x3) = some true := by
  unfold laws_eqArc
  simp only [Option.bind_some, bne_self_eq_false, Bool.not_true, cond_false, decide_true]

theorem szArcS_ok {xs : List (Int × Int × Int × Int)} {n : Int} (hx : xs.length ≤ 9223372036854775807) (hn : 0 ≤ n ∧ n ≤ 1048576) : ∃ m, laws_szArcS xs n = some m ∧ (m < 0 ∨ (xs.length ≤ 1048576 ∧ 0 ≤ m ∧ m ≤ n)) := by
  unfold laws_szArcS
  have e : wsub .i64 n (lenI xs) = n - (xs.length : Int) := i64_in _ (by simp only [lenI]; omega)
  rw [e]
  by_cases h : n - (xs.length : Int) < 0
  · exact ⟨-1, by simp only [h, decide_true, cond_true], .inl (by omega)⟩
  · exact ⟨_, by simp only [h, decide_false, cond_false]; rfl, .inr ⟨by omega, by omega, by omega⟩⟩

theorem toArcS_ok {xs : List (Int × Int × Int × Int)} (h : xs.length ≤ 1048576) : laws_toArcS xs = some xs := by
  unfold laws_toArcS
  rw [guard_pos ⟨by simp only [lenI]; omega, by simp only [lenI]; omega⟩]
  have := loop_to (f := laws_toArcS_B1 xs) xs ((0 : Int), (0 : Int), (0 : Int), (0 : Int)) (fun i out hi hl => by
    unfold laws_toArcS_B1
    simp only [ltN hi, cond_true, guard_pos (idxN hi), guard_pos (idxN (i := i) (n := out.length) (by omega)), Int.toNat_natCast, nextN hi (by omega), toArc_ok, Option.bind_some]
    try rfl) (fun out hl => by
    unfold laws_toArcS_B1
    simp only [geN (Nat.le_refl _), cond_false])
  simp only [Int.toNat_natCast, this, Option.bind_some]

theorem eqArcS_ok {xs : List (Int × Int × Int × Int)} (h : xs.length ≤ 1048576) : laws_eqArcS xs xs = some true := by
  unfold laws_eqArcS
  have := loop_eq (f := laws_eqArcS_B1 xs xs) (Sum.inl ()) xs.length (fun i hi => by
    unfold laws_eqArcS_B1
    simp only [ltN hi, cond_true, guard_pos (idxN hi), Int.toNat_natCast, eqArc_ok, Option.bind_some, Bool.not_true, cond_false, nextN hi (by omega)]) (by
    unfold laws_eqArcS_B1
    simp only [geN (Nat.le_refl _), cond_false])
  simp only [bne_self_eq_false, cond_false, this, Option.bind_some]

theorem szMachine_ok {x0 : Int} {x1 : Int} {x2 : List (Int × Int × Int × Int)} {x3 : List Int} {x4 : List Int} {n : Int} (hx2 : x2.length ≤ 9223372036854775807) (hx3 : x3.length ≤ 9223372036854775807) (hx4 : x4.length ≤ 9223372036854775807) (hn : 0 ≤ n ∧ n ≤ 1048576) : ∃ m, laws_szMachine (x0, x1, x2, x3, x4) n = some m ∧ (m < 0 ∨ ((x2.length ≤ 1048576 ∧ x3.length ≤ 1048576 ∧ x4.length ≤ 1048576) ∧ 0 ≤ m ∧ m ≤ n)) := by
  unfold laws_szMachine
  obtain ⟨m1, h1, k1⟩ := szArcS_ok (n := n) (xs := x2) hx2 (by omega)
  simp only [h1, Option.bind_some]
  by_cases c1 : m1 < 0
  · simp only [c1, decide_true, cond_true]; exact ⟨-1, rfl, .inl (by omega)⟩
  · obtain ⟨g1, p1, q1⟩ := k1.resolve_left c1
    simp only [c1, decide_false, cond_false]
    obtain ⟨m2, h2, k2⟩ := szInt64S_ok (n := m1) (xs := x3) hx3 (by omega)
    simp only [h2, Option.bind_some]
    by_cases c2 : m2 < 0
    · simp only [c2, decide_true, cond_true]; exact ⟨-1, rfl, .inl (by omega)⟩
    · obtain ⟨g2, p2, q2⟩ := k2.resolve_left c2
      simp only [c2, decide_false, cond_false]
      obtain ⟨m3, h3, k3⟩ := szInt64S_ok (n := m2) (xs := x4) hx4 (by omega)
      simp only [h3, Option.bind_some]
      by_cases c3 : m3 < 0
      · simp only [c3, decide_true, cond_true]; exact ⟨-1, rfl, .inl (by omega)⟩
      · obtain ⟨g3, p3, q3⟩ := k3.resolve_left c3
        simp only [c3, decide_false, cond_false]
        exact ⟨_, rfl, .inr ⟨⟨g1, g2, g3⟩, by omega, by omega⟩⟩

theorem toMachine_ok {x0 : Int} {x1 : Int} {x2 : List (Int × Int × Int × Int)} {x3 : List Int} {x4 : List Int} (hx2 : x2.length ≤ 1048576) (hx3 : x3.length ≤ 1048576) (hx4 : x4.length ≤ 1048576) : laws_toMachine (x0, x1, x2, x3, x4) = some (x0, x1, x2, x3, x4) := by
  unfold laws_toMachine
  simp only [toArcS_ok hx2, toInt64S_ok hx3, toInt64S_ok hx4, Option.bind_some]

theorem eqMachine_ok {x0 : Int} {x1 : Int} {x2 : List (Int × Int × Int × Int)} {x3 : List Int} {x4 : List Int} (hx2 : x2.length ≤ 1048576) (hx3 : x3.length ≤ 1048576) (hx4 : x4.length ≤ 1048576) : laws_eqMachine (x0, x1, x2, x3, x4) (x0, x1, x2, x3, x4) = some true := by
  unfold laws_eqMachine
  simp only [eqArcS_ok hx2, eqInt64S_ok hx3, eqInt64S_ok hx4, Option.bind_some, bne_self_eq_false, Bool.not_true, cond_false, decide_true]

end Go.Proofs


namespace Go.Proofs
open Go.Ide Go.IntWalk

theorem in64 (a b c : Int) : spec_l00In a b c = some (decide (a ≥ b) && decide (a ≤ c)) := by
  unfold spec_l00In
  cases h : decide (a ≥ b) <;> simp
theorem within64 (a b c : Int) : impl_within a b c = some (decide (a ≥ b) && decide (a ≤ c)) := by
  unfold impl_within
  cases h : decide (a ≥ b) <;> simp

def allIn (xs : List Int) (b c : Int) : Bool := xs.all fun x => decide (x ≥ b) && decide (x ≤ c)

theorem allIn_iff {xs : List Int} {b c : Int} : allIn xs b c = true ↔ ∀ i, i < xs.length → b ≤ xs.getD i 0 ∧ xs.getD i 0 ≤ c := by
  unfold allIn
  rw [List.all_eq_true]
  constructor
  · intro h i hi
    have := h xs[i] (List.getElem_mem hi)
    simp only [Bool.and_eq_true, decide_eq_true_eq] at this
    rw [List.getD_eq_getElem?_getD, List.getElem?_eq_getElem hi]
    exact ⟨this.1, this.2⟩
  · intro h x hx
    obtain ⟨i, hi, rfl⟩ := List.getElem_of_mem hx
    have := h i hi
    rw [List.getD_eq_getElem?_getD, List.getElem?_eq_getElem hi] at this
    simp only [Bool.and_eq_true, decide_eq_true_eq]
    exact ⟨this.1, this.2⟩

theorem allN_in (xs : List Int) (b c : Int) : allN (fun i => decide (xs.getD i 0 ≥ b) && decide (xs.getD i 0 ≤ c)) xs.length 0 = allIn xs b c := by
  rw [Bool.eq_iff_iff, allN_iff, allIn_iff]
  constructor
  · intro h i hi
    have := h i (by omega) (by omega)
    simp only [Bool.and_eq_true, decide_eq_true_eq] at this
    exact ⟨this.1, this.2⟩
  · intro h i _ hi
    have := h i (by omega)
    simp only [Bool.and_eq_true, decide_eq_true_eq]
    exact ⟨this.1, this.2⟩

theorem areWithin64 {xs : List Int} {b c : Int} (h : xs.length ≤ 4294967296) : impl_areWithin xs b c = some (allIn xs b c) := by
  unfold impl_areWithin
  have := rounds_all (f := impl_areWithin_B1 xs b c) (fun i => ((i : Nat) : Int)) (fun i => decide (xs.getD i 0 ≥ b) && decide (xs.getD i 0 ≤ c)) (Sum.inl ()) (Sum.inr ()) (n := xs.length) (fun i hi => by
    unfold impl_areWithin_B1
    simp only [ltN hi, cond_true, guard_pos (idxN hi), Int.toNat_natCast, within64, Option.bind_some, nextN hi h]
    cases (decide (xs.getD i 0 ≥ b) && decide (xs.getD i 0 ≤ c)) <;> rfl) (by
    unfold impl_areWithin_B1
    simp only [geN (Nat.le_refl _), cond_false]) xs.length 0 (by omega)
  rw [allN_in] at this
  simp only [Int.natCast_zero] at this
  simp only [this, Option.bind_some]
  cases allIn xs b c <;> rfl

structure Plain (m c : Nat) (nx : List Int) (es : List Bool) : Prop where
  m1 : 1 ≤ m
  m2 : m ≤ 64
  c1 : 1 ≤ c
  c2 : c ≤ 4
  len : nx.length = m * c
  ends : es.length = m
  to : ∀ i, i < m * c → ∃ t : Nat, nx.getD i 0 = (t : Int) ∧ t < m

section
variable {m c : Nat} {nx : List Int} {es : List Bool} (hp : Plain m c nx es)
include hp

end

end Go.Proofs


namespace Go.Proofs
open Go.Ide Go.IntWalk

def okArc (s l : Int) (r : Int × Int × Int × Int) : Bool :=
  (decide (r.1 ≥ 0) && decide (r.1 ≤ wsub .i64 s 1)) && ((decide (r.2.1 ≥ 0) && decide (r.2.1 ≤ wsub .i64 s 1)) && ((decide (r.2.2.1 ≥ -1) && decide (r.2.2.1 ≤ wsub .i64 l 1)) && (decide (r.2.2.2 ≥ 0) && decide (r.2.2.2 ≤ 1000))))

def okArcs (s l : Int) (zs : List (Int × Int × Int × Int)) : Bool := allN (fun i => okArc s l (zs.getD i (0, 0, 0, 0))) zs.length 0

def okMachine (s l : Int) (zs : List (Int × Int × Int × Int)) (ss es : List Int) : Bool :=
  (decide (s ≥ 1) && decide (s ≤ 16)) && ((decide (l ≥ 1) && decide (l ≤ 4)) && ((!decide (lenI zs > 128)) && (okArcs s l zs && ((allIn ss (-1) 1000 && (lenI ss == s)) && (allIn es (-1) 1000 && (lenI es == s))))))

theorem marks64 {xs : List Int} {L : Int} (h : xs.length ≤ 4294967296) : spec_l02Marks xs L = some (allIn xs (-1) 1000 && (lenI xs == L)) := by
  unfold spec_l02Marks
  have := rounds_all (f := spec_l02Marks_B1 xs) (fun i => ((i : Nat) : Int)) (fun i => decide (xs.getD i 0 ≥ -1) && decide (xs.getD i 0 ≤ 1000)) (Sum.inl ()) (Sum.inr ()) (n := xs.length) (fun i hi => by
    unfold spec_l02Marks_B1
    simp only [ltN hi, cond_true, guard_pos (idxN hi), Int.toNat_natCast, in64, Option.bind_some, nextN hi h]
    cases (decide (xs.getD i 0 ≥ -1) && decide (xs.getD i 0 ≤ 1000)) <;> rfl) (by
    unfold spec_l02Marks_B1
    simp only [geN (Nat.le_refl _), cond_false]) xs.length 0 (by omega)
  rw [allN_in] at this
  simp only [Int.natCast_zero] at this
  simp only [this, Option.bind_some]
  cases allIn xs (-1) 1000 <;> simp

theorem specMachine {s l : Int} {zs : List (Int × Int × Int × Int)} {ss es : List Int} (h : zs.length ≤ 4294967296) (hs : ss.length ≤ 4294967296) (he : es.length ≤ 4294967296) :
    spec_l02Is (s, l, zs, ss, es) = some (okMachine s l zs ss es) := by
  unfold spec_l02Is okMachine
  simp only [in64, Option.bind_some]
  have := rounds_all (f := spec_l02Is_B1 (s, l, zs, ss, es)) (fun i => ((i : Nat) : Int)) (fun i => okArc s l (zs.getD i (0, 0, 0, 0))) (Sum.inl ()) (Sum.inr ()) (n := zs.length) (fun i hi => by
    unfold spec_l02Is_B1
    simp only [ltN hi, cond_true, guard_pos (idxN hi), Int.toNat_natCast, in64, Option.bind_some, nextN hi h, okArc]
    generalize (decide ((zs.getD i (0, 0, 0, 0)).1 ≥ 0) && decide ((zs.getD i (0, 0, 0, 0)).1 ≤ wsub .i64 s 1)) = A
    generalize (decide ((zs.getD i (0, 0, 0, 0)).2.1 ≥ 0) && decide ((zs.getD i (0, 0, 0, 0)).2.1 ≤ wsub .i64 s 1)) = B
    generalize (decide ((zs.getD i (0, 0, 0, 0)).2.2.1 ≥ -1) && decide ((zs.getD i (0, 0, 0, 0)).2.2.1 ≤ wsub .i64 l 1)) = C
    generalize (decide ((zs.getD i (0, 0, 0, 0)).2.2.2 ≥ 0) && decide ((zs.getD i (0, 0, 0, 0)).2.2.2 ≤ 1000)) = D
    cases A <;> cases B <;> cases C <;> cases D <;> rfl) (by
    unfold spec_l02Is_B1
    simp only [geN (Nat.le_refl _), cond_false]) zs.length 0 (by omega)
  simp only [Int.natCast_zero] at this
  rw [show allN (fun i => okArc s l (zs.getD i (0, 0, 0, 0))) zs.length 0 = okArcs s l zs from rfl] at this
  simp only [this, marks64 hs, marks64 he, Option.bind_some]
  generalize (decide (s ≥ 1) && decide (s ≤ 16)) = A
  generalize (decide (l ≥ 1) && decide (l ≤ 4)) = B
  generalize decide (lenI zs > 128) = C
  generalize okArcs s l zs = D
  generalize (allIn ss (-1) 1000 && (lenI ss == s)) = E
  generalize (allIn es (-1) 1000 && (lenI es == s)) = F
  cases A <;> cases B <;> cases C <;> cases D <;> cases E <;> cases F <;> rfl

theorem implMachine {s l : Int} {zs : List (Int × Int × Int × Int)} {ss es : List Int} (h : zs.length ≤ 4294967296) (hs : ss.length ≤ 4294967296) (he : es.length ≤ 4294967296) :
    impl_ValidMachine (s, l, zs, ss, es) = some (okMachine s l zs ss es) := by
  unfold impl_ValidMachine okMachine
  simp only [within64, Option.bind_some]
  have := rounds_all (f := impl_ValidMachine_B1 (s, l, zs, ss, es)) (fun i => ((i : Nat) : Int)) (fun i => okArc s l (zs.getD i (0, 0, 0, 0))) (Sum.inl ()) (Sum.inr ()) (n := zs.length) (fun i hi => by
    unfold impl_ValidMachine_B1
    simp only [ltN hi, cond_true, guard_pos (idxN hi), Int.toNat_natCast, within64, Option.bind_some, nextN hi h, okArc]
    generalize (decide ((zs.getD i (0, 0, 0, 0)).1 ≥ 0) && decide ((zs.getD i (0, 0, 0, 0)).1 ≤ wsub .i64 s 1)) = A
    generalize (decide ((zs.getD i (0, 0, 0, 0)).2.1 ≥ 0) && decide ((zs.getD i (0, 0, 0, 0)).2.1 ≤ wsub .i64 s 1)) = B
    generalize (decide ((zs.getD i (0, 0, 0, 0)).2.2.1 ≥ -1) && decide ((zs.getD i (0, 0, 0, 0)).2.2.1 ≤ wsub .i64 l 1)) = C
    generalize (decide ((zs.getD i (0, 0, 0, 0)).2.2.2 ≥ 0) && decide ((zs.getD i (0, 0, 0, 0)).2.2.2 ≤ 1000)) = D
    cases A <;> cases B <;> cases C <;> cases D <;> rfl) (by
    unfold impl_ValidMachine_B1
    simp only [geN (Nat.le_refl _), cond_false]) zs.length 0 (by omega)
  simp only [Int.natCast_zero] at this
  rw [show allN (fun i => okArc s l (zs.getD i (0, 0, 0, 0))) zs.length 0 = okArcs s l zs from rfl] at this
  simp only [this, areWithin64 hs, areWithin64 he, Option.bind_some]
  generalize (decide (s ≥ 1) && decide (s ≤ 16)) = A
  generalize (decide (l ≥ 1) && decide (l ≤ 4)) = B
  generalize decide (lenI zs > 128) = C
  generalize okArcs s l zs = D
  generalize allIn ss (-1) 1000 = E
  generalize (lenI ss == s) = E'
  generalize allIn es (-1) 1000 = F
  generalize (lenI es == s) = F'
  cases A <;> cases B <;> cases C <;> cases D <;> cases E <;> cases E' <;> cases F <;> cases F' <;> rfl

end Go.Proofs


namespace Go.Proofs
open Go.Ide Go.IntWalk

def digI (u : Nat) : List Int := (Lib.decDigits u).map fun b => ((b.toNat : Nat) : Int)

theorem digI_small {u : Nat} (h : u < 10) : digI u = [((48 + u : Nat) : Int)] := by
  unfold digI
  rw [Lib.decDigits, dif_pos h, List.map_cons, List.map_nil, UInt8.toNat_ofNat', Nat.mod_eq_of_lt (by omega)]

theorem digI_big {u : Nat} (h : ¬ u < 10) : digI u = digI (u / 10) ++ [((48 + u % 10 : Nat) : Int)] := by
  unfold digI
  rw [Lib.decDigits, dif_neg h, List.map_append, List.map_cons, List.map_nil, UInt8.toNat_ofNat', Nat.mod_eq_of_lt (by omega)]

theorem bytesO_digI (u : Nat) : bytesO (digI u) = Lib.decDigits u := by
  unfold bytesO digI
  rw [List.map_map]
  conv => rhs; rw [← List.map_id (Lib.decDigits u)]
  apply List.map_congr_left
  intro b _
  simp

theorem dec_step {m : Int} {u : Nat} {ds : List Int} (h1 : m.natAbs = u) (h2 : u ≤ 9223372036854775808) (h3 : m ≤ 9223372036854775807) (h4 : ds = [] ∨ m ≠ 0) (h5 : ds.length ≤ 1000) :
    spec_l01Dec_B1 (m, ds) = some (.inl (Int.tdiv m 10, ((48 + u % 10 : Nat) : Int) :: ds)) := by
  have e0 : (bif (lenI ds == 0) then some true else some (m != 0)) = some true := by
    rcases h4 with rfl | h
    · rfl
    · have : (m != 0) = true := by simpa using h
      rw [this]; cases (lenI ds == 0) <;> rfl
  have e1 : (bif decide (Int.tmod m 10 < 0) then some (IntKind.wrap .i64 (0 - Int.tmod m 10)) else some (Int.tmod m 10)) = some ((u % 10 : Nat) : Int) := by
    rcases Int.natAbs_eq m with e | e
    · rw [e, h1]
      have : Int.tmod (u : Int) 10 = ((u % 10 : Nat) : Int) := rfl
      rw [this, show decide (((u % 10 : Nat) : Int) < 0) = false by simp only [decide_eq_false_iff_not]; omega, cond_false]
    · rw [e, h1]
      have : Int.tmod (-(u : Int)) 10 = -((u % 10 : Nat) : Int) := by rw [Int.neg_tmod]; rfl
      rw [this]
      by_cases hz : u % 10 = 0
      · rw [hz]; rfl
      · rw [show decide (-((u % 10 : Nat) : Int) < 0) = true by simp only [decide_eq_true_eq]; omega, cond_true, i64_in _ (by omega)]
        congr 1
        omega
  have e2 : IntKind.wrap .i64 (Int.tdiv m 10) = Int.tdiv m 10 := by
    apply i64_in
    rcases Int.natAbs_eq m with e | e
    · rw [e, h1]
      have : Int.tdiv (u : Int) 10 = ((u / 10 : Nat) : Int) := rfl
      rw [this]; omega
    · rw [e, h1]
      have : Int.tdiv (-(u : Int)) 10 = -((u / 10 : Nat) : Int) := by rw [Int.neg_tdiv]; rfl
      rw [this]; omega
  have e3 : IntKind.wrap .u8 (wadd .i64 48 ((u % 10 : Nat) : Int)) = ((48 + u % 10 : Nat) : Int) := by
    rw [waddI (by omega), u8_in _ (by omega)]; omega
  unfold spec_l01Dec_B1
  simp only [e0, Option.bind_some, cond_true, e1, e2, e3]
  rw [guard_pos (by simp only [List.length_cons, List.length_nil]; unfold appMax; omega)]
  rfl

theorem dec_end {ds : List Int} (h : ds ≠ []) : spec_l01Dec_B1 (0, ds) = some (.inr ds) := by
  have e : (lenI ds == 0) = false := by
    rw [beq_eq_false_iff_ne]
    have := List.length_pos_iff.2 h
    simp only [lenI]; omega
  unfold spec_l01Dec_B1
  simp only [e, cond_false, bne_self_eq_false, Option.bind_some]

theorem tdiv_abs (m : Int) : (Int.tdiv m 10).natAbs = m.natAbs / 10 := by
  rw [Int.natAbs_tdiv]; rfl

theorem dec_rounds : ∀ (u : Nat) (m : Int) (ds : List Int), m.natAbs = u → (ds = [] ∨ u ≠ 0) → u ≤ 9223372036854775808 → m ≤ 9223372036854775807 → ds.length + Lib.nDigits u ≤ 1000 →
    rounds (spec_l01Dec_B1) (m, ds) = some (digI u ++ ds) := by
  intro u
  induction u using Nat.strongRecOn with
  | _ u ih =>
    intro m ds h1 h2 h3 h4 h5
    rw [rounds_eq, dec_step h1 h3 h4 (h2.imp id fun h e => h (by rw [← h1, e]; rfl)) (by omega)]
    show rounds _ _ = _
    by_cases hu : u < 10
    · have e : Int.tdiv m 10 = 0 := by
        have := tdiv_abs m
        omega
      rw [e, rounds_eq, dec_end (by simp), digI_small hu, Nat.mod_eq_of_lt hu]
      rfl
    · have hn : Lib.nDigits u = Lib.nDigits (u / 10) + 1 := by rw [Lib.nDigits, dif_neg hu]
      rw [ih (u / 10) (by omega) _ _ (by rw [tdiv_abs, h1]) (.inr (by omega)) (by omega) (by
        have := tdiv_abs m
        omega) (by simp only [List.length_cons]; omega), digI_big hu]
      simp

theorem nDigits_le {n : Int} (h : -9223372036854775808 ≤ n ∧ n ≤ 9223372036854775807) : Lib.nDigits n.natAbs ≤ 21 := by
  have := Lib.itoa_length_le n h.1 h.2
  unfold Lib.itoa at this
  split at this
  · rw [List.length_cons, Lib.decDigits_length] at this
    omega
  · rw [Lib.decDigits_length, show n.toNat = n.natAbs by omega] at this
    exact this

theorem dec_ok {n : Int} (h : -9223372036854775808 ≤ n ∧ n ≤ 9223372036854775807) : spec_l01Dec n = some (Lib.itoa n) := by
  have hd := nDigits_le h
  unfold spec_l01Dec
  rw [dec_rounds n.natAbs n [] rfl (.inl rfl) (by omega) h.2 (by simp; omega), Option.bind_some, List.append_nil]
  unfold Lib.itoa
  by_cases hn : n < 0
  · rw [show decide (n < 0) = true by simpa using hn, cond_true, if_pos hn, guard_pos (by
      simp only [List.length_cons, List.length_nil]
      unfold digI appMax
      rw [List.length_map, Lib.decDigits_length]
      omega), Option.bind_some]
    show some (bytesO (45 :: digI n.natAbs)) = _
    rw [← bytesO_digI]
    rfl
  · rw [show decide (n < 0) = false by simpa using hn, cond_false, Option.bind_some, bytesO_digI, if_neg hn, show n.toNat = n.natAbs by omega]

theorem impl_dec {n : Int} (h : -9223372036854775808 ≤ n ∧ n ≤ 9223372036854775807) : impl_Decimal n = some (Lib.itoa n) := by
  unfold impl_Decimal strconv_FormatInt
  rw [guard_pos (show _ ∧ _ ∧ _ from ⟨rfl, h.1, h.2⟩)]
  rfl

end Go.Proofs


namespace Go.Proofs
open Go.Ide Go.IntWalk

def jn (p : List UInt8) : List (List UInt8) → List UInt8
  | [] => []
  | x :: [] => x
  | x :: y :: r => x ++ p ++ jn p (y :: r)

theorem jn_join (p : List UInt8) : ∀ l : List (List UInt8), Lib.join l p = jn p l
  | [] => rfl
  | [x] => by simp [Lib.join, jn, List.intercalate]
  | x :: y :: r => by
    have ih := jn_join p (y :: r)
    unfold Lib.join List.intercalate at ih
    unfold Lib.join List.intercalate jn
    rw [← ih]
    simp [List.intersperse]

theorem jn_snoc (p x : List UInt8) : ∀ l : List (List UInt8), l ≠ [] → jn p (l ++ [x]) = jn p l ++ (p ++ x)
  | [], h => absurd rfl h
  | [y], _ => by simp [jn]
  | y :: z :: r, _ => by
    have ih := jn_snoc p x (z :: r) (by simp)
    simp only [List.cons_append] at ih ⊢
    simp only [jn, ih, List.append_assoc]

theorem jn_len {p : List UInt8} {k : Nat} : ∀ l : List (List UInt8), (∀ x ∈ l, x.length ≤ k) → (jn p l).length ≤ l.length * (k + p.length)
  | [], _ => by simp [jn]
  | [x], h => by
    have := h x (by simp)
    simp [jn]; omega
  | x :: y :: r, h => by
    have ih := jn_len (p := p) (y :: r) fun z hz => h z (List.mem_cons_of_mem _ hz)
    have := h x (by simp)
    simp only [jn, List.length_append]
    rw [List.length_cons, Nat.succ_mul]
    omega

def i64R (n : Int) : Prop := -9223372036854775808 ≤ n ∧ n ≤ 9223372036854775807

def tx (xs : List Int) : List UInt8 := if xs = [] then [110, 111, 110, 101] else jn [44] (xs.map Lib.itoa)

theorem itoa21 {n : Int} (h : i64R n) : (Lib.itoa n).length ≤ 21 := Lib.itoa_length_le n h.1 h.2

theorem jnI_len {xs : List Int} (h : ∀ x ∈ xs, i64R x) : (jn [44] (xs.map Lib.itoa)).length ≤ xs.length * 22 := by
  have := jn_len (p := [44]) (k := 21) (xs.map Lib.itoa) fun x hx => by
    obtain ⟨n, hn, rfl⟩ := List.mem_map.1 hx
    exact itoa21 (h n hn)
  simpa using this

theorem tx_len {xs : List Int} (h : ∀ x ∈ xs, i64R x) : (tx xs).length ≤ xs.length * 22 + 4 := by
  unfold tx
  split
  · simp
  · have := jnI_len h
    omega

theorem getD_mem {xs : List Int} {i : Nat} (h : i < xs.length) : xs.getD i 0 ∈ xs := by
  rw [List.getD_eq_getElem?_getD, List.getElem?_eq_getElem h]
  exact List.getElem_mem h

theorem specText {xs : List Int} (h : xs.length ≤ 1048576) (hv : ∀ x ∈ xs, i64R x) : spec_l01Text xs = some (tx xs) := by
  unfold spec_l01Text tx
  by_cases e : xs = []
  · subst e; rfl
  · have hp := List.length_pos_iff.2 e
    rw [if_neg e, show (lenI xs == 0) = false by rw [beq_eq_false_iff_ne]; simp only [lenI]; omega, cond_false, guard_pos (show _ ∧ _ from ⟨by omega, by simp only [lenI]; omega⟩)]
    have h0 : spec_l01Dec (List.getD xs (Int.toNat 0) 0) = some (Lib.itoa (xs.getD 0 0)) := dec_ok (hv _ (getD_mem hp))
    rw [h0, Option.bind_some]
    obtain ⟨r, h1, h2⟩ : ∃ r, rounds (spec_l01Text_B1 xs) (Lib.itoa (xs.getD 0 0), (1 : Int)) = some r ∧ r = jn [44] (xs.map Lib.itoa) := by
      refine rounds_inv (f := spec_l01Text_B1 xs) (fun (n : Nat) (s : List UInt8 × Int) => ∃ i : Nat, s = (jn [44] ((xs.take i).map Lib.itoa), (i : Int)) ∧ 1 ≤ i ∧ i ≤ xs.length ∧ n = xs.length - i) (fun r => r = jn [44] (xs.map Lib.itoa)) (fun n s hR => ?_) (xs.length - 1) _ ⟨1, ?_, Nat.le_refl _, hp, rfl⟩
      · obtain ⟨i, rfl, k1, k2, rfl⟩ := hR
        have hl : (jn [44] ((xs.take i).map Lib.itoa)).length ≤ i * 22 := by
          have := jnI_len (xs := xs.take i) fun x hx => hv x (List.mem_of_mem_take hx)
          rw [List.length_take, Nat.min_eq_left k2] at this
          exact this
        by_cases hi : i < xs.length
        · left
          have hd := hv _ (getD_mem hi)
          have h21 := itoa21 hd
          refine ⟨xs.length - (i + 1), (jn [44] ((xs.take (i + 1)).map Lib.itoa), ((i + 1 : Nat) : Int)), by omega, ?_, i + 1, rfl, by omega, hi, rfl⟩
          unfold spec_l01Text_B1
          simp only [show decide ((i : Int) < lenI xs) = true from ltN hi, cond_true, guard_pos (idxN hi), Int.toNat_natCast, dec_ok hd, Option.bind_some]
          rw [guard_pos (by simp only [List.length_cons, List.length_nil]; unfold appMax; omega), guard_pos (by simp only [List.length_append, List.length_cons, List.length_nil]; unfold appMax; omega), nextN hi (by omega)]
          congr 3
          rw [take_snoc hi 0, List.map_append]
          exact (jn_snoc _ _ _ (by
            intro q
            have := congrArg List.length q
            simp only [List.length_map, List.length_take, List.length_nil] at this
            omega)).symm
        · right
          have : i = xs.length := by omega
          subst this
          refine ⟨_, ?_, rfl⟩
          unfold spec_l01Text_B1
          simp only [show decide (((xs.length : Nat) : Int) < lenI xs) = false from geN (Nat.le_refl _), cond_false, List.take_length]
      · cases xs with
        | nil => exact absurd rfl e
        | cons x r => simp [jn]
    rw [h1, h2]; rfl

def okVals (xs : List Int) : Bool := allIn xs (-1000000000000000) 1000000000000000 && decide (lenI xs ≤ 64)

theorem specList {xs : List Int} (h : xs.length ≤ 4294967296) : spec_l01List xs = some (okVals xs) := by
  unfold spec_l01List okVals
  have := rounds_all (f := spec_l01List_B1 xs) (fun i => ((i : Nat) : Int)) (fun i => decide (xs.getD i 0 ≥ -1000000000000000) && decide (xs.getD i 0 ≤ 1000000000000000)) (Sum.inl ()) (Sum.inr ()) (n := xs.length) (fun i hi => by
    unfold spec_l01List_B1
    simp only [ltN hi, cond_true, guard_pos (idxN hi), Int.toNat_natCast, in64, Option.bind_some, nextN hi h]
    cases (decide (xs.getD i 0 ≥ -1000000000000000) && decide (xs.getD i 0 ≤ 1000000000000000)) <;> rfl) (by
    unfold spec_l01List_B1
    simp only [geN (Nat.le_refl _), cond_false]) xs.length 0 (by omega)
  rw [allN_in] at this
  simp only [Int.natCast_zero] at this
  simp only [this, Option.bind_some]
  cases allIn xs (-1000000000000000) 1000000000000000 <;> simp

theorem implVals {xs : List Int} (h : xs.length ≤ 4294967296) : impl_areValues xs = some (okVals xs) := by
  unfold impl_areValues okVals
  have := rounds_all (f := impl_areValues_B1 xs) (fun i => ((i : Nat) : Int)) (fun i => decide (xs.getD i 0 ≥ -1000000000000000) && decide (xs.getD i 0 ≤ 1000000000000000)) (Sum.inl ()) (Sum.inr ()) (n := xs.length) (fun i hi => by
    unfold impl_areValues_B1 impl_isValue
    simp only [ltN hi, cond_true, guard_pos (idxN hi), Int.toNat_natCast, within64, Option.bind_some, nextN hi h]
    cases (decide (xs.getD i 0 ≥ -1000000000000000) && decide (xs.getD i 0 ≤ 1000000000000000)) <;> rfl) (by
    unfold impl_areValues_B1
    simp only [geN (Nat.le_refl _), cond_false]) xs.length 0 (by omega)
  rw [allN_in] at this
  simp only [Int.natCast_zero] at this
  simp only [this, Option.bind_some]
  cases allIn xs (-1000000000000000) 1000000000000000 <;> simp

theorem allIn_mem {xs : List Int} {b c : Int} : allIn xs b c = true ↔ ∀ x ∈ xs, b ≤ x ∧ x ≤ c := by
  unfold allIn
  rw [List.all_eq_true]
  simp only [Bool.and_eq_true, decide_eq_true_eq]

theorem okVals_spec {xs : List Int} (h : okVals xs = true) : (∀ x ∈ xs, i64R x) ∧ xs.length ≤ 64 := by
  unfold okVals at h
  simp only [Bool.and_eq_true, decide_eq_true_eq, lenI] at h
  exact ⟨fun x hx => by
    have := allIn_mem.1 h.1 x hx
    unfold i64R; omega, by omega⟩

theorem implTexts {xs : List Int} (h : xs.length ≤ 1048576) (hv : ∀ x ∈ xs, i64R x) : impl_listText xs = some (tx xs) := by
  have hl := jnI_len hv
  have := rounds_forS (f := impl_listText_B1 xs) (fun i (s : List (List UInt8)) => (((i : Nat) : Int), s)) (fun i s => s ++ [Lib.itoa (xs.getD i 0)]) id (n := xs.length) (fun i s => s = (xs.take i).map Lib.itoa) (fun i s hi hs => ⟨by
    have hsl : s.length ≤ i := by rw [hs, List.length_map, List.length_take]; omega
    unfold impl_listText_B1
    simp only [show decide ((i : Int) < lenI xs) = true from ltN hi, cond_true, guard_pos (idxN hi), Int.toNat_natCast, impl_dec (hv _ (getD_mem hi)), Option.bind_some]
    rw [guard_pos (by simp only [List.length_cons, List.length_nil]; unfold appMax; omega), nextN hi (by omega)], by
    rw [hs, take_snoc hi 0, List.map_append]; rfl⟩) (fun s _ => by
    unfold impl_listText_B1
    simp only [show decide (((xs.length : Nat) : Int) < lenI xs) = false from geN (Nat.le_refl _), cond_false]; rfl) xs.length 0 [] (by omega) (by simp)
  obtain ⟨h1, h2⟩ := this
  rw [List.take_length] at h2
  simp only [Int.natCast_zero, id, h2] at h1
  unfold impl_listText
  rw [h1, Option.bind_some]
  unfold impl_joined tx
  by_cases e : xs = []
  · subst e; rfl
  · have hp := List.length_pos_iff.2 e
    rw [if_neg e, show (lenI (xs.map Lib.itoa) == 0) = false by rw [beq_eq_false_iff_ne]; simp only [lenI, List.length_map]; omega, cond_false]
    unfold strings_Join
    rw [jn_join, guard_pos (show _ ∧ _ from ⟨by rw [List.length_map]; omega, by omega⟩)]
    rfl

theorem implListText {xs : List Int} (h : xs.length ≤ 1048576) : impl_ListText xs = some (bif okVals xs then (tx xs, true) else ([], false)) := by
  unfold impl_ListText
  rw [implVals (by omega), Option.bind_some]
  cases e : okVals xs with
  | false => rfl
  | true =>
    rw [implTexts h (okVals_spec e).1]
    rfl

theorem implListTexts {ls : List (List Int)} (h : ls.length ≤ 1000) (hl : ∀ l ∈ ls, l.length ≤ 1048576) : impl_listTexts ls = some (bif ls.all okVals then (jn [59] (ls.map tx), true) else ([], false)) := by
  obtain ⟨r, h1, h2⟩ : ∃ r, rounds (impl_listTexts_B1 ls) ((0 : Int), ([] : List (List UInt8))) = some r ∧ r = bif ls.all okVals then .inl (ls.map tx) else .inr () := by
    refine rounds_inv (f := impl_listTexts_B1 ls) (fun (n : Nat) (s : Int × List (List UInt8)) => ∃ i : Nat, s = ((i : Int), (ls.take i).map tx) ∧ i ≤ ls.length ∧ n = ls.length - i ∧ (ls.take i).all okVals = true) (fun r => r = bif ls.all okVals then .inl (ls.map tx) else .inr ()) (fun n s hR => ?_) ls.length _ ⟨0, by simp, Nat.zero_le _, rfl, by simp⟩
    obtain ⟨i, rfl, k1, rfl, k3⟩ := hR
    by_cases hi : i < ls.length
    · have hm : ls.getD i [] ∈ ls := by
        rw [List.getD_eq_getElem?_getD, List.getElem?_eq_getElem hi]; exact List.getElem_mem hi
      cases e : okVals (ls.getD i []) with
      | true =>
        left
        refine ⟨ls.length - (i + 1), (((i + 1 : Nat) : Int), (ls.take (i + 1)).map tx), by omega, ?_, i + 1, rfl, hi, rfl, by rw [take_snoc hi [], List.all_append, k3, List.all_cons, e]; rfl⟩
        unfold impl_listTexts_B1
        simp only [show decide ((i : Int) < lenI ls) = true from ltN hi, cond_true, guard_pos (idxN hi), Int.toNat_natCast, implListText (hl _ hm), e, Option.bind_some, Bool.not_true, cond_false]
        rw [guard_pos (by simp only [List.length_map, List.length_take, List.length_cons, List.length_nil]; unfold appMax; omega), nextN hi (by omega), take_snoc hi [], List.map_append]
        rfl
      | false =>
        right
        refine ⟨.inr (), ?_, ?_⟩
        · unfold impl_listTexts_B1
          simp only [show decide ((i : Int) < lenI ls) = true from ltN hi, cond_true, guard_pos (idxN hi), Int.toNat_natCast, implListText (hl _ hm), e, Option.bind_some, Bool.not_false, cond_true, cond_false]
        · have : ls.all okVals = false := by
            rw [Bool.eq_false_iff]
            intro q
            rw [List.all_eq_true] at q
            rw [q _ hm] at e; cases e
          rw [this]; rfl
    · right
      have : i = ls.length := by omega
      subst this
      rw [List.take_length] at k3 ⊢
      refine ⟨.inl (ls.map tx), ?_, by rw [k3]; rfl⟩
      unfold impl_listTexts_B1
      simp only [show decide (((ls.length : Nat) : Int) < lenI ls) = false from geN (Nat.le_refl _), cond_false]
  unfold impl_listTexts
  rw [h1, h2]
  cases e : ls.all okVals with
  | false => rfl
  | true =>
    simp only [cond_true, Option.bind_some]
    have hj : (jn [59] (ls.map tx)).length ≤ (ls.map tx).length * (1412 + 1) := jn_len (p := [59]) (ls.map tx) fun x hx => by
      obtain ⟨l, hl', rfl⟩ := List.mem_map.1 hx
      obtain ⟨q1, q2⟩ := okVals_spec (List.all_eq_true.1 e l hl')
      have := tx_len q1
      omega
    rw [List.length_map] at hj
    unfold strings_Join
    rw [jn_join, guard_pos (show _ ∧ _ from ⟨by rw [List.length_map]; omega, by omega⟩)]
    rfl

end Go.Proofs


namespace Go.Proofs
open Go.Ide Go.IntWalk

abbrev Q4 := Int × Int × Int × Int

def flat4 (zs : List Q4) : List Int := zs.flatMap fun r => [r.1, r.2.1, r.2.2.1, r.2.2.2]

theorem flat4_len (zs : List Q4) : (flat4 zs).length = 4 * zs.length := by
  unfold flat4
  induction zs with
  | nil => rfl
  | cons r zs ih => rw [List.flatMap_cons, List.length_append, ih, List.length_cons]; simp; omega

theorem flat4_snoc (zs : List Q4) (r : Q4) : flat4 (zs ++ [r]) = flat4 zs ++ [r.1, r.2.1, r.2.2.1, r.2.2.2] := by
  unfold flat4
  rw [List.flatMap_append]
  simp

theorem loop4 {f : Int × List Int → Option ((Int × List Int) ⊕ List Int)} {zs : List Q4} (h : zs.length ≤ 1048576)
    (hstep : ∀ (i : Nat) (s : List Int), i < zs.length → s.length ≤ 4 * i → f ((i : Int), s) = some (.inl (((i + 1 : Nat) : Int), s ++ [(zs.getD i (0, 0, 0, 0)).1, (zs.getD i (0, 0, 0, 0)).2.1, (zs.getD i (0, 0, 0, 0)).2.2.1, (zs.getD i (0, 0, 0, 0)).2.2.2])))
    (hend : ∀ s : List Int, f (((zs.length : Nat) : Int), s) = some (.inr s)) : rounds f ((0 : Int), ([] : List Int)) = some (flat4 zs) := by
  have := rounds_forS (f := f) (fun i (s : List Int) => (((i : Nat) : Int), s)) (fun i s => s ++ [(zs.getD i (0, 0, 0, 0)).1, (zs.getD i (0, 0, 0, 0)).2.1, (zs.getD i (0, 0, 0, 0)).2.2.1, (zs.getD i (0, 0, 0, 0)).2.2.2]) id (n := zs.length)
    (fun i s => s = flat4 (zs.take i)) (fun i s hi hs => ⟨hstep i s hi (by rw [hs, flat4_len, List.length_take]; omega), by rw [hs, take_snoc hi (0, 0, 0, 0), flat4_snoc]⟩) (fun s _ => hend s) zs.length 0 [] (by omega) (by simp [flat4])
  obtain ⟨h1, h2⟩ := this
  rw [List.take_length] at h2
  simp only [Int.natCast_zero, id, h2] at h1
  exact h1

theorem specArcs {zs : List Q4} (h : zs.length ≤ 1048576) : spec_l08Arcs zs = some (flat4 zs) := by
  unfold spec_l08Arcs
  rw [loop4 (f := spec_l08Arcs_B1 zs) h (fun i s hi hs => by
    unfold spec_l08Arcs_B1
    simp only [show decide ((i : Int) < lenI zs) = true from ltN hi, cond_true, guard_pos (idxN hi), Int.toNat_natCast]
    rw [guard_pos (by simp only [List.length_cons, List.length_nil]; unfold appMax; omega), nextN hi (by omega)]) (fun s => by
    unfold spec_l08Arcs_B1
    simp only [show decide (((zs.length : Nat) : Int) < lenI zs) = false from geN (Nat.le_refl _), cond_false])]
  rfl

theorem implArcs {s l : Int} {zs : List Q4} {ss es : List Int} (h : zs.length ≤ 1048576) : rounds (impl_MachineText_B1 (s, l, zs, ss, es)) ((0 : Int), ([] : List Int)) = some (flat4 zs) :=
  loop4 h (fun i s hi hs => by
    unfold impl_MachineText_B1
    simp only [show decide ((i : Int) < lenI zs) = true from ltN hi, cond_true, guard_pos (idxN hi), Int.toNat_natCast, Option.bind_some]
    rw [guard_pos (by simp only [List.length_cons, List.length_nil]; unfold appMax; omega), nextN hi (by omega)]) (fun s => by
    unfold impl_MachineText_B1
    simp only [show decide (((zs.length : Nat) : Int) < lenI zs) = false from geN (Nat.le_refl _), cond_false])

theorem okPair {s l : Int} (hs : -1000000000000000 ≤ s ∧ s ≤ 1000000000000000) (hl : -1000000000000000 ≤ l ∧ l ≤ 1000000000000000) : okVals [s, l] = true := by
  unfold okVals
  rw [Bool.and_eq_true, allIn_mem]
  refine ⟨fun x hx => ?_, by simp [lenI]⟩
  simp only [List.mem_cons, List.not_mem_nil, or_false] at hx
  rcases hx with rfl | rfl <;> omega

theorem guard_app {β : Type} {a b : List UInt8} {k : Option β} (h : a.length + b.length ≤ 1000000000) : guardP (List.length a + List.length b ≤ appMax) k = k :=
  guard_pos (by unfold appMax; omega)

theorem tx64 {xs : List Int} (h : okVals xs = true) : (tx xs).length ≤ 1412 := by
  obtain ⟨q1, q2⟩ := okVals_spec h
  have := tx_len q1
  omega

theorem MachineText_eq {x0_0 x0_1 : Int} {x0_2 : List (Int × Int × Int × Int)} {x0_3 x0_4 : List Int} (h2 : x0_2.length ≤ 1048576) (h3 : x0_3.length ≤ 1048576) (h4 : x0_4.length ≤ 1048576) :
    ∃ r, spec_MachineText (x0_0, x0_1, x0_2, x0_3, x0_4) = some r ∧ impl_MachineText (x0_0, x0_1, x0_2, x0_3, x0_4) = some r := by
  unfold spec_MachineText impl_MachineText
  simp only [specMachine (s := x0_0) (l := x0_1) (zs := x0_2) (ss := x0_3) (es := x0_4) (by omega) (by omega) (by omega), implMachine (s := x0_0) (l := x0_1) (zs := x0_2) (ss := x0_3) (es := x0_4) (by omega) (by omega) (by omega), Option.bind_some]
  cases e : okMachine x0_0 x0_1 x0_2 x0_3 x0_4 with
  | false => exact ⟨_, rfl, rfl⟩
  | true =>
    have hv := e
    unfold okMachine at hv
    simp only [Bool.and_eq_true, decide_eq_true_eq, Bool.not_eq_true', decide_eq_false_iff_not, lenI, beq_iff_eq] at hv
    obtain ⟨⟨a1, a2⟩, ⟨b1, b2⟩, c1, _, ⟨d1, d2⟩, ⟨e1, e2⟩⟩ := hv
    have hp : okVals [x0_0, x0_1] = true := okPair (by omega) (by omega)
    have side : ∀ xs : List Int, allIn xs (-1) 1000 = true → (xs.length : Int) = x0_0 → okVals xs = true := fun xs q1 q2 => by
      unfold okVals
      rw [Bool.and_eq_true, allIn_mem]
      refine ⟨fun x hx => ?_, by simp only [lenI, decide_eq_true_eq]; omega⟩
      have := allIn_mem.1 q1 x hx
      omega
    have hs3 := side _ d1 d2
    have hs4 := side _ e1 e2
    have hfl := flat4_len x0_2
    simp only [Bool.not_true, cond_false, specArcs h2, Option.bind_some, specList (xs := flat4 x0_2) (by omega), implArcs h2]
    rw [implListTexts (by simp) (fun l hl => by
      simp only [List.mem_cons, List.not_mem_nil, or_false] at hl
      rcases hl with rfl | rfl | rfl | rfl
      · simp
      · omega
      · omega
      · omega)]
    simp only [List.all_cons, hp, hs3, hs4, List.all_nil, Bool.true_and, Bool.and_true, Option.bind_some]
    cases e2 : okVals (flat4 x0_2) with
    | false => exact ⟨_, rfl, rfl⟩
    | true =>
      refine ⟨(tx [x0_0, x0_1] ++ [59] ++ tx x0_3 ++ [59] ++ tx x0_4 ++ [59] ++ tx (flat4 x0_2), true), ?_, ?_⟩
      · have t1 := tx64 hp; have t2 := tx64 e2; have t3 := tx64 hs3; have t4 := tx64 hs4
        unfold spec_l08Machine
        simp only [Bool.not_true, cond_false, specText (xs := [x0_0, x0_1]) (by simp) (okVals_spec hp).1, specText (xs := flat4 x0_2) (by omega) (okVals_spec e2).1, specText (xs := x0_3) (by omega) (okVals_spec hs3).1, specText (xs := x0_4) (by omega) (okVals_spec hs4).1, Option.bind_some, specArcs h2]
        rw [guard_app (by simp only [List.length_append, List.length_cons, List.length_nil]; omega), guard_app (by simp only [List.length_append, List.length_cons, List.length_nil]; omega), guard_app (by simp only [List.length_append, List.length_cons, List.length_nil]; omega),
          guard_app (by simp only [List.length_append, List.length_cons, List.length_nil]; omega), guard_app (by simp only [List.length_append, List.length_cons, List.length_nil]; omega), guard_app (by simp only [List.length_append, List.length_cons, List.length_nil]; omega)]
        rfl
      · simp [jn]

end Go.Proofs


namespace Go.Proofs
open Go.Ide Go.IntWalk

theorem MachineText_law (x0 : Int × Int × List (Int × Int × Int × Int) × List Int × List Int) (w0 : WfD (.st (.pair tI (.pair tI (.pair (.sl (.st (.pair tI (.pair tI (.pair tI tI))))) (.pair tLI tLI))))) x0) : laws_FnExactMachineText x0 = some true := by
  obtain ⟨x0_0, ⟨x0_1, ⟨x0_2, ⟨x0_3, x0_4⟩⟩⟩⟩ := x0
  have hx0_2 : x0_2.length ≤ 9223372036854775807 := Nat.le_trans (w0.2.2.1.1) (by decide)
  have hx0_3 : x0_3.length ≤ 9223372036854775807 := Nat.le_trans (w0.2.2.2.1.1) (by decide)
  have hx0_4 : x0_4.length ≤ 9223372036854775807 := Nat.le_trans (w0.2.2.2.2.1) (by decide)
  unfold laws_FnExactMachineText
  obtain ⟨m1, a1, b1⟩ := szMachine_ok (n := 1048576) (x0 := x0_0) (x1 := x0_1) (x2 := x0_2) (x3 := x0_3) (x4 := x0_4) hx0_2 hx0_3 hx0_4 (by omega)
  simp only [a1, Option.bind_some]
  by_cases c1 : m1 < 0
  · simp only [c1, decide_true, cond_true]
  · obtain ⟨⟨ox0_2, ox0_3, ox0_4⟩, d1, f1⟩ := b1.resolve_left c1
    simp only [c1, decide_false, cond_false]
    obtain ⟨⟨r0_0, r1_0⟩, k1, k2⟩ := MachineText_eq (x0_0 := x0_0) (x0_1 := x0_1) (x0_2 := x0_2) (x0_3 := x0_3) (x0_4 := x0_4) ox0_2 ox0_3 ox0_4
    simp only [k1,
      k2,
      Option.bind_some,
      Bool.not_true,
      cond_false,
      bne_self_eq_false,
      cond_true,
      toMachine_ok (x0 := x0_0) (x1 := x0_1) (x2 := x0_2) (x3 := x0_3) (x4 := x0_4) ox0_2 ox0_3 ox0_4,
      eqMachine_ok (x0 := x0_0) (x1 := x0_1) (x2 := x0_2) (x3 := x0_3) (x4 := x0_4) ox0_2 ox0_3 ox0_4]

end Go.Proofs
