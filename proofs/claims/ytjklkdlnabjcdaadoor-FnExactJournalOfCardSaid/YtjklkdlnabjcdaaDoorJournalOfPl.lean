import Derived.Test.YtjklkdlnabjcdaaDoorJournalOfGenA
import Derived.Lib.SplitLaws
import Derived.Lib.ItoaLen
import Derived.Lib.CutLaws
set_option linter.unusedVariables false
set_option linter.unusedSimpArgs false
set_option linter.unusedSectionVars false

namespace Go.Proofs
open Go.Ide Go.IntWalk

-- no lemma for szStringS: strings
-- no lemma for toStringS: strings
-- no lemma for eqStringS: strings
end Go.Proofs


namespace Go.Proofs
open Go.Ide Go.IntWalk

end Go.Proofs


namespace Go.Proofs
open Go.Ide Go.IntWalk

end Go.Proofs


namespace Go.Proofs
open Go.Ide Go.IntWalk

end Go.Proofs


namespace Go.Proofs
open Go.Ide Go.IntWalk

def digI (u : Nat) : List Int := (Lib.decDigits u).map fun b => ((b.toNat : Nat) : Int)

theorem digI_small {u : Nat} (h : u < 10) : digI u = [((48 + u : Nat) : Int)] := by
  unfold digI
  rw [Lib.decDigits, dif_pos h, List.map_cons, List.map_nil, UInt8.toNat_ofNat', Nat.mod_eq_of_lt (by omega)]

theorem digI_big {u : Nat} (h : ¬ u < 10) : digI u = digI (u / 10) ++ [((48 + u % 10 : Nat) : Int)] := by
  unfold digI
  rw [Lib.decDigits, dif_neg h, List.map_append, List.map_cons, List.map_nil, UInt8.toNat_ofNat', Nat.mod_eq_of_lt (by omega)]

theorem bytesO_digI (u : Nat) : bytesO (digI u) = Lib.decDigits u := by
  unfold bytesO digI
  rw [List.map_map]
  conv => rhs; rw [← List.map_id (Lib.decDigits u)]
  apply List.map_congr_left
  intro b _
  simp

theorem dec_step {m : Int} {u : Nat} {ds : List Int} (h1 : m.natAbs = u) (h2 : u ≤ 9223372036854775808) (h3 : m ≤ 9223372036854775807) (h4 : ds = [] ∨ m ≠ 0) (h5 : ds.length ≤ 1000) :
    spec_l01Dec_B1 (m, ds) = some (.inl (Int.tdiv m 10, ((48 + u % 10 : Nat) : Int) :: ds)) := by
  have e0 : (bif (lenI ds == 0) then some true else some (m != 0)) = some true := by
    rcases h4 with rfl | h
    · rfl
    · have : (m != 0) = true := by simpa using h
      rw [this]; cases (lenI ds == 0) <;> rfl
  have e1 : (bif decide (Int.tmod m 10 < 0) then some (IntKind.wrap .i64 (0 - Int.tmod m 10)) else some (Int.tmod m 10)) = some ((u % 10 : Nat) : Int) := by
    rcases Int.natAbs_eq m with e | e
    · rw [e, h1]
      have : Int.tmod (u : Int) 10 = ((u % 10 : Nat) : Int) := rfl
      rw [this, show decide (((u % 10 : Nat) : Int) < 0) = false by simp only [decide_eq_false_iff_not]; omega, cond_false]
    · rw [e, h1]
      have : Int.tmod (-(u : Int)) 10 = -((u % 10 : Nat) : Int) := by rw [Int.neg_tmod]; rfl
      rw [this]
      by_cases hz : u % 10 = 0
      · rw [hz]; rfl
      · rw [show decide (-((u % 10 : Nat) : Int) < 0) = true by simp only [decide_eq_true_eq]; omega, cond_true, i64_in _ (by omega)]
        congr 1
        omega
  have e2 : IntKind.wrap .i64 (Int.tdiv m 10) = Int.tdiv m 10 := by
    apply i64_in
    rcases Int.natAbs_eq m with e | e
    · rw [e, h1]
      have : Int.tdiv (u : Int) 10 = ((u / 10 : Nat) : Int) := rfl
      rw [this]; omega
    · rw [e, h1]
      have : Int.tdiv (-(u : Int)) 10 = -((u / 10 : Nat) : Int) := by rw [Int.neg_tdiv]; rfl
      rw [this]; omega
  have e3 : IntKind.wrap .u8 (wadd .i64 48 ((u % 10 : Nat) : Int)) = ((48 + u % 10 : Nat) : Int) := by
    rw [waddI (by omega), u8_in _ (by omega)]; omega
  unfold spec_l01Dec_B1
  simp only [e0, Option.bind_some, cond_true, e1, e2, e3]
  rw [guard_pos (by simp only [List.length_cons, List.length_nil]; unfold appMax; omega)]
  rfl

theorem dec_end {ds : List Int} (h : ds ≠ []) : spec_l01Dec_B1 (0, ds) = some (.inr ds) := by
  have e : (lenI ds == 0) = false := by
    rw [beq_eq_false_iff_ne]
    have := List.length_pos_iff.2 h
    simp only [lenI]; omega
  unfold spec_l01Dec_B1
  simp only [e, cond_false, bne_self_eq_false, Option.bind_some]

theorem tdiv_abs (m : Int) : (Int.tdiv m 10).natAbs = m.natAbs / 10 := by
  rw [Int.natAbs_tdiv]; rfl

theorem dec_rounds : ∀ (u : Nat) (m : Int) (ds : List Int), m.natAbs = u → (ds = [] ∨ u ≠ 0) → u ≤ 9223372036854775808 → m ≤ 9223372036854775807 → ds.length + Lib.nDigits u ≤ 1000 →
    rounds (spec_l01Dec_B1) (m, ds) = some (digI u ++ ds) := by
  intro u
  induction u using Nat.strongRecOn with
  | _ u ih =>
    intro m ds h1 h2 h3 h4 h5
    rw [rounds_eq, dec_step h1 h3 h4 (h2.imp id fun h e => h (by rw [← h1, e]; rfl)) (by omega)]
    show rounds _ _ = _
    by_cases hu : u < 10
    · have e : Int.tdiv m 10 = 0 := by
        have := tdiv_abs m
        omega
      rw [e, rounds_eq, dec_end (by simp), digI_small hu, Nat.mod_eq_of_lt hu]
      rfl
    · have hn : Lib.nDigits u = Lib.nDigits (u / 10) + 1 := by rw [Lib.nDigits, dif_neg hu]
      rw [ih (u / 10) (by omega) _ _ (by rw [tdiv_abs, h1]) (.inr (by omega)) (by omega) (by
        have := tdiv_abs m
        omega) (by simp only [List.length_cons]; omega), digI_big hu]
      simp

theorem nDigits_le {n : Int} (h : -9223372036854775808 ≤ n ∧ n ≤ 9223372036854775807) : Lib.nDigits n.natAbs ≤ 21 := by
  have := Lib.itoa_length_le n h.1 h.2
  unfold Lib.itoa at this
  split at this
  · rw [List.length_cons, Lib.decDigits_length] at this
    omega
  · rw [Lib.decDigits_length, show n.toNat = n.natAbs by omega] at this
    exact this

theorem dec_ok {n : Int} (h : -9223372036854775808 ≤ n ∧ n ≤ 9223372036854775807) : spec_l01Dec n = some (Lib.itoa n) := by
  have hd := nDigits_le h
  unfold spec_l01Dec
  rw [dec_rounds n.natAbs n [] rfl (.inl rfl) (by omega) h.2 (by simp; omega), Option.bind_some, List.append_nil]
  unfold Lib.itoa
  by_cases hn : n < 0
  · rw [show decide (n < 0) = true by simpa using hn, cond_true, if_pos hn, guard_pos (by
      simp only [List.length_cons, List.length_nil]
      unfold digI appMax
      rw [List.length_map, Lib.decDigits_length]
      omega), Option.bind_some]
    show some (bytesO (45 :: digI n.natAbs)) = _
    rw [← bytesO_digI]
    rfl
  · rw [show decide (n < 0) = false by simpa using hn, cond_false, Option.bind_some, bytesO_digI, if_neg hn, show n.toNat = n.natAbs by omega]

end Go.Proofs


namespace Go.Proofs
open Go.Ide Go.IntWalk

def fstI (c : UInt8) : List UInt8 → Nat
  | [] => 0
  | b :: l => if b = c then 0 else fstI c l + 1

theorem fstI_le (c : UInt8) : ∀ s : List UInt8, fstI c s ≤ s.length
  | [] => Nat.le_refl _
  | b :: l => by
    have := fstI_le c l
    unfold fstI
    split
    · omega
    · simp; omega

theorem indexByte_fst (c : UInt8) : ∀ s : List UInt8, Lib.indexByte s c = if fstI c s = s.length then -1 else ((fstI c s : Nat) : Int)
  | [] => rfl
  | b :: l => by
    have ih := indexByte_fst c l
    unfold Lib.indexByte fstI
    by_cases e : b = c
    · subst e
      simp
    · have e2 : (b == c) = false := by simpa using e
      rw [e2, if_neg (by simp), if_neg e, ih]
      by_cases h : fstI c l = l.length
      · rw [if_pos h, if_pos (show ((-1 : Int) == -1) = true from rfl), if_pos (show fstI c l + 1 = (b :: l).length by simp [h])]
      · have : (((fstI c l : Nat) : Int) == -1) = false := by rw [beq_eq_false_iff_ne]; omega
        rw [if_neg h, this, if_neg (show ¬ false = true by simp), if_neg (show ¬ fstI c l + 1 = (b :: l).length by simp [h])]
        omega

theorem index_byte (c : UInt8) : ∀ s : List UInt8, Lib.index s [c] = Lib.indexByte s c
  | [] => by simp [Lib.index, Lib.indexByte]
  | b :: l => by
    have ih := index_byte c l
    unfold Lib.indexByte
    by_cases e : b = c
    · subst e
      rw [Lib.index]; simp [List.isPrefixOf]
    · have hp : ([c] : List UInt8).isPrefixOf (b :: l) = false := by simp [List.isPrefixOf, Ne.symm e]
      have e2 : (b == c) = false := by simpa using e
      rw [Lib.index, hp, e2, ih]

end Go.Proofs


namespace Go.Proofs
open Go.Ide Go.IntWalk

def chkT (s : List UInt8) (i : Nat) (n : Int) : Int := Int.tmod (wadd .i64 (wadd .i64 (wmul .i64 919 n) (IntKind.wrap .i64 (ub s i))) 191) 65003
def chkF (c : Int) (s : List UInt8) : Int := forS (chkT s) s.length 0 c

theorem chkT_range {s : List UInt8} {i : Nat} {n : Int} (h : 0 ≤ n ∧ n ≤ 65002) : 0 ≤ chkT s i n ∧ chkT s i n ≤ 65002 := by
  have hu := ub_range s i
  unfold chkT
  rw [ub_wrap, wmulI (by omega), waddI (a := 919 * n) (b := ub s i) (by omega), waddI (by omega)]
  have h1 : 0 ≤ 919 * n + ub s i + 191 := by omega
  have h2 := Int.tmod_nonneg 65003 h1
  have h3 := Int.tmod_lt_of_pos (919 * n + ub s i + 191) (show (0 : Int) < 65003 by decide)
  omega

theorem spec_checkF {s : List UInt8} {c : Int} (h : s.length ≤ 4294967296) (hc : 0 ≤ c ∧ c ≤ 65002) : spec_l01Check c s = some (chkF c s) ∧ 0 ≤ chkF c s ∧ chkF c s ≤ 65002 := by
  have := rounds_forS (f := spec_l01Check_B1 s) (fun i n => (n, ((i : Nat) : Int))) (chkT s) id (n := s.length) (fun i n => 0 ≤ n ∧ n ≤ 65002) (fun i n hi hn => ⟨by
    unfold spec_l01Check_B1
    have e : ((((List.getD s i 0 : UInt8).toNat : Nat)) : Int) = ub s i := rfl
    simp only [ltN hi, cond_true, guard_pos (idxN hi), Int.toNat_natCast, nextN hi h, e]
    rfl, chkT_range hn⟩) (fun n _ => by
    unfold spec_l01Check_B1
    simp only [geN (Nat.le_refl _), cond_false]; rfl) s.length 0 c (by omega) hc
  simp only [Int.natCast_zero] at this
  refine ⟨?_, this.2⟩
  unfold spec_l01Check
  simp only [this.1, Option.bind_some]
  rfl

theorem impl_checkF {s : List UInt8} {c : Int} (h : s.length ≤ 4294967296) (hc : 0 ≤ c ∧ c ≤ 65002) : impl_CheckOf c s = some (chkF c s, true) := by
  have h1 := (spec_checkF h hc).1
  have hw : impl_within c 0 65002 = some true := by
    unfold impl_within
    rw [show decide (c ≥ 0) = true by simpa using hc.1, show decide (c ≤ 65002) = true by simpa using hc.2]
    rfl
  unfold impl_CheckOf
  rw [hw, Option.bind_some]
  unfold spec_l01Check at h1
  rw [show impl_CheckOf_B1 s = spec_l01Check_B1 s from rfl]
  cases hr : rounds (spec_l01Check_B1 s) (c, (0 : Int)) with
  | none => rw [hr] at h1; cases h1
  | some r =>
    rw [hr] at h1
    injection h1 with h1
    show some (r, true) = _
    rw [h1]

end Go.Proofs


namespace Go.Proofs
open Go.Ide Go.IntWalk

theorem eqS_ok {xs : List (List UInt8)} (h : xs.length ≤ 4000000) : laws_eqStringS xs xs = some true := by
  have := rounds_all (f := laws_eqStringS_B1 xs xs) (fun i => ((i : Nat) : Int)) (fun _ => true) (.inl ()) (.inr ()) (n := xs.length) (fun i hi => by
    unfold laws_eqStringS_B1
    simp only [lenI, ltN hi, cond_true, guard_pos (idxN hi), bne_self_eq_false, cond_false, nextN hi (show xs.length ≤ 4294967296 by omega)]) (by
    unfold laws_eqStringS_B1
    simp only [lenI, geN (Nat.le_refl _), cond_false]) xs.length 0 (by omega)
  have hn : ∀ k i, allN (fun _ => true) k i = true := by
    intro k
    induction k with
    | zero => intro i; rfl
    | succ k ih => intro i; simp [allN, ih]
  rw [hn, cond_true] at this
  unfold laws_eqStringS
  simp only [Int.natCast_zero] at this
  simp only [bne_self_eq_false, cond_false, this, Option.bind_some]

end Go.Proofs


namespace Go.Proofs
open Go.Ide Go.IntWalk

theorem contains_fst (c : UInt8) (s : List UInt8) : Lib.contains s [c] = decide (fstI c s < s.length) := by
  have := fstI_le c s
  unfold Lib.contains
  rw [index_byte, indexByte_fst]
  by_cases h : fstI c s = s.length
  · rw [if_pos h, h]; simp
  · rw [if_neg h]
    have h2 : fstI c s < s.length := by omega
    simp [h2]

def nl (s : List UInt8) : Bool := Lib.contains s [10]

def jtext : List (List UInt8) → Int → List UInt8
  | [], _ => []
  | l :: r, c => (Lib.itoa (chkF c l) ++ [32] ++ l ++ [10]) ++ jtext r (chkF c l)

theorem chk_in {c : Int} {l : List UInt8} (hl : l.length ≤ 1048576) (hc : 0 ≤ c ∧ c ≤ 65002) : 0 ≤ chkF c l ∧ chkF c l ≤ 65002 := (spec_checkF (by omega) hc).2

theorem itoa_pos {n : Int} : 1 ≤ (Lib.itoa n).length := by
  have hd : ∀ u : Nat, 1 ≤ (Lib.decDigits u).length := fun u => by
    unfold Lib.decDigits
    split
    · simp
    · simp
  unfold Lib.itoa
  split
  · simp
  · exact hd _

def jleast : List (List UInt8) → Nat
  | [] => 0
  | l :: r => l.length + 3 + jleast r

theorem jtext_least : ∀ (xs : List (List UInt8)) (c : Int), jleast xs ≤ (jtext xs c).length
  | [], _ => Nat.zero_le _
  | l :: r, c => by
    have := jtext_least r (chkF c l)
    have := itoa_pos (n := chkF c l)
    simp only [jleast, jtext, List.length_append, List.length_cons, List.length_nil]
    omega

theorem jrn_text : ∀ (xs : List (List UInt8)) (c : Int) (acc : List UInt8), (∀ l ∈ xs, l.length ≤ 1048576) → 0 ≤ c ∧ c ≤ 65002 → acc.length ≤ 16000 →
    jrn xs c acc = some (bif !xs.any nl && decide ((acc ++ jtext xs c).length ≤ 16000) then (acc ++ jtext xs c, true) else ([], false))
  | [], c, acc, _, _, ha => by
    unfold jrn jtext
    simp [ha]
  | l :: r, c, acc, hl, hc, ha => by
    have h1 := hl l (by simp)
    have h2 := chk_in h1 hc
    have hr : ∀ l ∈ r, l.length ≤ 1048576 := fun x hx => hl x (List.mem_cons_of_mem _ hx)
    unfold jrn
    rw [List.any_cons, show Lib.contains l [10] = nl l from rfl]
    cases hn : nl l with
    | true => rfl
    | false =>
      rw [cond_false, impl_checkF (by omega) hc, Option.bind_some, guard_pos (show _ ∧ _ from ⟨by show _ ≤ chkF c l; omega, by show chkF c l ≤ _; omega⟩)]
      have e : jadd acc (chkF c l) l ++ jtext r (chkF c l) = acc ++ jtext (l :: r) c := by
        unfold jadd
        simp [jtext]
      by_cases hg : (jadd acc (chkF c l) l).length > 16000
      · have hb : decide ((acc ++ jtext (l :: r) c).length ≤ 16000) = false := by
          rw [← e]
          simp only [decide_eq_false_iff_not, List.length_append]
          omega
        rw [hb, Bool.and_false, cond_false]
        show (bif decide ((jadd acc (chkF c l) l).length > 16000) then _ else _) = _
        rw [show decide ((jadd acc (chkF c l) l).length > 16000) = true by simpa using hg]
        rfl
      · show (bif decide ((jadd acc (chkF c l) l).length > 16000) then _ else _) = _
        rw [show decide ((jadd acc (chkF c l) l).length > 16000) = false by simpa using hg, cond_false, jrn_text r (chkF c l) (jadd acc (chkF c l) l) hr h2 (by omega), e]
        rfl

theorem spec_text : ∀ (k : Nat) (xs : List (List UInt8)) (i : Nat) (c : Int) (acc : List UInt8), k = xs.length - i → xs.length ≤ 1048576 → i ≤ xs.length → (∀ l ∈ xs, l.length ≤ 1048576) → 0 ≤ c ∧ c ≤ 65002 → acc.length + jleast (xs.drop i) + 30 * (xs.length - i) ≤ 100000000 →
    rounds (spec_l08Journal_B1 xs) (acc, c, (i : Int)) = some (acc ++ jtext (xs.drop i) c)
  | 0, xs, i, c, acc, hk, hn, hi, hl, hc, ha => by
    have : i = xs.length := by omega
    subst this
    rw [rounds_eq]
    unfold spec_l08Journal_B1
    simp only [show decide (((xs.length : Nat) : Int) < lenI xs) = false from geN (Nat.le_refl _), cond_false, List.drop_length, jtext, List.append_nil]
  | k + 1, xs, i, c, acc, hk, hn, hi, hl, hc, ha => by
    have hlt : i < xs.length := by omega
    have hd : xs.drop i = xs.getD i [] :: xs.drop (i + 1) := drop_cons hlt []
    have hm : xs.getD i [] ∈ xs := by
      rw [List.getD_eq_getElem?_getD, List.getElem?_eq_getElem hlt]; exact List.getElem_mem hlt
    rw [hd] at ha ⊢
    generalize hle : xs.getD i [] = l at hm ha ⊢
    have h1 := hl l hm
    have h2 := chk_in h1 hc
    have h3 := Lib.itoa_length_le (chkF c l) (by omega) (by omega)
    simp only [jleast] at ha
    have ih := spec_text k xs (i + 1) (chkF c l) (acc ++ (Lib.itoa (chkF c l) ++ [32] ++ l ++ [10])) (by omega) hn (by omega) hl h2 (by
      simp only [List.length_append, List.length_cons, List.length_nil]; omega)
    rw [rounds_eq]
    have hst : spec_l08Journal_B1 xs (acc, c, (i : Int)) = some (.inl (acc ++ (Lib.itoa (chkF c l) ++ [32] ++ l ++ [10]), chkF c l, ((i + 1 : Nat) : Int))) := by
      unfold spec_l08Journal_B1
      simp only [show decide ((i : Int) < lenI xs) = true from ltN hlt, cond_true, guard_pos (idxN hlt), Int.toNat_natCast, hle, (spec_checkF (s := l) (c := c) (by omega) hc).1, Option.bind_some, dec_ok (n := chkF c l) (by omega)]
      rw [guard_pos (by simp only [List.length_cons, List.length_nil]; unfold appMax; omega), guard_pos (by simp only [List.length_append, List.length_cons, List.length_nil]; unfold appMax; omega),
        guard_pos (by simp only [List.length_append, List.length_cons, List.length_nil]; unfold appMax; omega), guard_pos (by simp only [List.length_append, List.length_cons, List.length_nil]; unfold appMax; omega), nextN hlt (by omega)]
    rw [hst]
    show rounds _ _ = _
    rw [ih]
    simp [jtext]

theorem nl_scan {xs : List (List UInt8)} {s1 : Int × Int} {j : Nat} (hj : s1.2 = (j : Int)) (h : (xs.getD j []).length ≤ 1048576) :
    rounds (spec_JournalOf_B1 xs s1) (0 : Int) = some (bif nl (xs.getD j []) then .inr () else .inl ()) := by
  have := rounds_all (f := spec_JournalOf_B1 xs s1) (fun i => ((i : Nat) : Int)) (fun i => decide ((xs.getD j []).getD i 0 ≠ 10)) (Sum.inl ()) (Sum.inr ()) (n := (xs.getD j []).length) (fun i hi => by
    unfold spec_JournalOf_B1
    simp only [hj, Int.toNat_natCast, show decide ((i : Int) < lenI (xs.getD j [])) = true from ltN hi, cond_true, guard_pos (idxN hi), nextN hi (show (xs.getD j []).length ≤ 4294967296 by omega)]
    by_cases e : (xs.getD j []).getD i 0 = 10
    · rw [e]; rfl
    · have q : (((((xs.getD j []).getD i 0 : UInt8).toNat : Nat) : Int) == 10) = false := by
        rw [beq_eq_false_iff_ne]
        intro q
        apply e
        apply UInt8.toNat_inj.1
        show _ = 10
        omega
      rw [q, show decide ((xs.getD j []).getD i 0 ≠ 10) = true by simpa using e]
      rfl) (by
    unfold spec_JournalOf_B1
    simp only [hj, Int.toNat_natCast, show decide (((((xs.getD j []).length : Nat)) : Int) < lenI (xs.getD j [])) = false from geN (Nat.le_refl _), cond_false]) (xs.getD j []).length 0 (by omega)
  simp only [Int.natCast_zero] at this
  rw [this]
  congr 1
  generalize xs.getD j [] = s
  have key : allN (fun i => decide (s.getD i 0 ≠ 10)) s.length 0 = !nl s := by
    unfold nl
    rw [contains_fst, Bool.eq_iff_iff, allN_iff]
    constructor
    · intro hh
      simp only [Bool.not_eq_true', decide_eq_false_iff_not]
      intro hf
      have h2 := hh (fstI 10 s) (by omega) (by omega)
      simp only [decide_eq_true_eq] at h2
      apply h2
      clear h2 hh this h
      induction s with
      | nil => simp at hf
      | cons b l ih =>
        unfold fstI at hf ⊢
        by_cases e : b = 10
        · rw [if_pos e]; simpa using e
        · rw [if_neg e] at hf ⊢
          simp only [List.length_cons] at hf
          simpa using ih (by omega)
    · intro hh i _ hi
      simp only [Bool.not_eq_true', decide_eq_false_iff_not] at hh
      simp only [decide_eq_true_eq]
      intro he
      apply hh
      clear hh this h
      induction s generalizing i with
      | nil => simp at hi
      | cons b l ih =>
        unfold fstI
        by_cases e : b = 10
        · rw [if_pos e]; simp
        · rw [if_neg e]
          cases i with
          | zero => exact absurd (by simpa using he) e
          | succ i =>
            have := ih i (Nat.zero_le _) (by simp only [List.length_cons] at hi; omega) (by simpa using he)
            simp only [List.length_cons]; omega
  rw [key]
  cases nl s <;> rfl

theorem jleast_take_succ {xs : List (List UInt8)} {i : Nat} (h : i < xs.length) : jleast (xs.take (i + 1)) = jleast (xs.take i) + ((xs.getD i []).length + 3) := by
  have ap : ∀ (a b : List (List UInt8)), jleast (a ++ b) = jleast a + jleast b := fun a b => by
    induction a with
    | nil => simp [jleast]
    | cons x a ih => simp only [List.cons_append, jleast, ih]; omega
  rw [take_snoc h [], ap]
  simp [jleast]

theorem jleast_take {xs : List (List UInt8)} (i : Nat) : jleast (xs.take i) ≤ jleast xs := by
  induction xs generalizing i with
  | nil => simp [jleast]
  | cons x a ih =>
    cases i with
    | zero => simp [jleast]
    | succ i =>
      have := ih i
      simp only [List.take_succ_cons, jleast]; omega

theorem spec_journal {xs : List (List UInt8)} (hn : xs.length ≤ 1048576) (hl : ∀ l ∈ xs, l.length ≤ 1048576) (hs : jleast xs ≤ 10000000) :
    spec_JournalOf xs = some (bif !xs.any nl && decide ((jtext xs 0).length ≤ 16000) then (jtext xs 0, true) else ([], false)) := by
  obtain ⟨r, h1, h2⟩ : ∃ r, rounds (spec_JournalOf_B2 xs) ((0 : Int), (0 : Int)) = some r ∧ ((r = .inl () ∧ xs.any nl = false) ∨ (r = .inr () ∧ (xs.any nl = true ∨ 16000 < jleast xs))) := by
    refine rounds_inv (f := spec_JournalOf_B2 xs) (fun (n : Nat) (s : Int × Int) => ∃ i : Nat, s = ((jleast (xs.take i) : Int), (i : Int)) ∧ i ≤ xs.length ∧ n = xs.length - i ∧ (xs.take i).any nl = false) _ (fun n s hR => ?_) xs.length _ ⟨0, by simp [jleast], Nat.zero_le _, rfl, by simp⟩
    obtain ⟨i, rfl, k1, rfl, k3⟩ := hR
    by_cases hi : i < xs.length
    · have hm : xs.getD i [] ∈ xs := by
        rw [List.getD_eq_getElem?_getD, List.getElem?_eq_getElem hi]; exact List.getElem_mem hi
      have h3 := hl _ hm
      have hj := jleast_take_succ hi
      have hjt := jleast_take (xs := xs) (i + 1)
      have e1 : wadd .i64 (jleast (xs.take i) : Int) (wadd .i64 (lenI (xs.getD i [])) 3) = (jleast (xs.take (i + 1)) : Int) := by
        simp only [lenI]
        rw [waddI (a := ((xs.getD i []).length : Int)) (by omega), waddI (by omega), hj]
        omega
      have e2 : spec_JournalOf_B2 xs ((jleast (xs.take i) : Int), (i : Int)) = bif decide ((jleast (xs.take (i + 1)) : Int) > 16000) then some (.inr (.inr ())) else (bif nl (xs.getD i []) then some (.inr (.inr ())) else some (.inl ((jleast (xs.take (i + 1)) : Int), ((i + 1 : Nat) : Int)))) := by
        unfold spec_JournalOf_B2
        simp only [show decide ((i : Int) < lenI xs) = true from ltN hi, cond_true, guard_pos (idxN hi), Int.toNat_natCast, e1, Option.bind_some, nl_scan (xs := xs) (s1 := ((jleast (xs.take i) : Int), (i : Int))) (j := i) rfl h3, nextN hi (show xs.length ≤ 4294967296 by omega)]
        cases nl (xs.getD i []) <;> rfl
      rw [e2]
      by_cases hg : (jleast (xs.take (i + 1)) : Int) > 16000
      · right
        rw [show decide ((jleast (xs.take (i + 1)) : Int) > 16000) = true by simpa using hg]
        exact ⟨_, rfl, .inr ⟨rfl, .inr (by omega)⟩⟩
      · rw [show decide ((jleast (xs.take (i + 1)) : Int) > 16000) = false by simpa using hg, cond_false]
        cases hnl : nl (xs.getD i []) with
        | true =>
          right
          exact ⟨_, rfl, .inr ⟨rfl, .inl (List.any_eq_true.2 ⟨_, hm, hnl⟩)⟩⟩
        | false =>
          left
          exact ⟨xs.length - (i + 1), _, by omega, rfl, i + 1, rfl, hi, rfl, by rw [take_snoc hi [], List.any_append, k3, List.any_cons, hnl]; rfl⟩
    · right
      have : i = xs.length := by omega
      subst this
      rw [List.take_length] at k3
      refine ⟨.inl (), ?_, .inl ⟨rfl, k3⟩⟩
      unfold spec_JournalOf_B2
      simp only [show decide (((xs.length : Nat) : Int) < lenI xs) = false from geN (Nat.le_refl _), cond_false]
  have hle := jtext_least xs 0
  unfold spec_JournalOf
  rw [h1, Option.bind_some]
  rcases h2 with ⟨rfl, h2⟩ | ⟨rfl, h2⟩
  · have ht := spec_text xs.length xs 0 0 [] (by simp) hn (Nat.zero_le _) hl (by omega) (by simp; omega)
    simp only [List.drop_zero, List.nil_append] at ht
    have h4 : spec_l08Journal xs = some (jtext xs 0) := by
      unfold spec_l08Journal
      rw [show (([] : List UInt8), (0 : Int), (0 : Int)) = (([] : List UInt8), (0 : Int), ((0 : Nat) : Int)) from rfl, ht]
      rfl
    simp only [h4, Option.bind_some, h2, Bool.not_false, Bool.true_and]
    by_cases hg : lenI (jtext xs 0) > 16000
    · rw [show decide (lenI (jtext xs 0) > 16000) = true by simpa using hg, show decide ((jtext xs 0).length ≤ 16000) = false by simp only [lenI] at hg; simp only [decide_eq_false_iff_not]; omega]
      rfl
    · rw [show decide (lenI (jtext xs 0) > 16000) = false by simpa using hg, show decide ((jtext xs 0).length ≤ 16000) = true by simp only [lenI] at hg; simp only [decide_eq_true_eq]; omega]
      rfl
  · have : (!xs.any nl && decide ((jtext xs 0).length ≤ 16000)) = false := by
      rcases h2 with h2 | h2
      · rw [h2]; rfl
      · rw [show decide ((jtext xs 0).length ≤ 16000) = false by simp only [decide_eq_false_iff_not]; omega, Bool.and_false]
    rw [this]
    rfl

theorem szS_ok {xs : List (List UInt8)} (hx : xs.length ≤ maxLen) (hl : ∀ l ∈ xs, l.length ≤ maxLen) : ∃ m, laws_szStringS xs 1048576 = some m ∧ (m < 0 ∨ (xs.length ≤ 1048576 ∧ (∀ l ∈ xs, l.length ≤ 1048576) ∧ jleast xs ≤ 10000000)) := by
  unfold maxLen at hx hl
  have tot : ∀ (i : Nat) (m : Int), True := fun _ _ => trivial
  clear tot
  unfold laws_szStringS
  rw [wsubI (by simp only [lenI]; omega)]
  by_cases h0 : (1048576 : Int) - lenI xs < 0
  · rw [show decide ((1048576 : Int) - lenI xs < 0) = true by simpa using h0]
    exact ⟨-1, rfl, .inl (by omega)⟩
  · rw [show decide ((1048576 : Int) - lenI xs < 0) = false by simpa using h0, cond_false]
    have hn : xs.length ≤ 1048576 := by simp only [lenI] at h0; omega
    obtain ⟨r, h1, h2⟩ : ∃ r, rounds (laws_szStringS_B1 xs) ((1048576 : Int) - lenI xs, (0 : Int)) = some r ∧ ((∃ m : Int, r = .inl m ∧ 0 ≤ m ∧ (∀ l ∈ xs, l.length ≤ 1048576) ∧ jleast xs ≤ 10000000) ∨ r = .inr ()) := by
      refine rounds_inv (f := laws_szStringS_B1 xs) (fun (n : Nat) (s : Int × Int) => ∃ i : Nat, s.2 = (i : Int) ∧ 0 ≤ s.1 ∧ i ≤ xs.length ∧ n = xs.length - i ∧ s.1 ≤ 1048576 ∧ s.1 + jleast (xs.take i) ≤ 1048576 + 3 * i ∧ ∀ j, j < i → (xs.getD j []).length ≤ 1048576) _ (fun n s hR => ?_) xs.length _ ⟨0, rfl, by simp only; omega, Nat.zero_le _, rfl, by simp only [lenI]; omega, by simp [jleast]; simp only [lenI]; omega, fun j hj => by omega⟩
      obtain ⟨s1, s2⟩ := s
      obtain ⟨i, rfl, k0, k1, rfl, k2, k3, k4⟩ := hR
      simp only at k0 k2 k3
      by_cases hi : i < xs.length
      · have hm : xs.getD i [] ∈ xs := by
          rw [List.getD_eq_getElem?_getD, List.getElem?_eq_getElem hi]; exact List.getElem_mem hi
        have h3 := hl _ hm
        have hj := jleast_take_succ hi
        have e1 : wsub .i64 s1 (lenI (xs.getD i [])) = s1 - (xs.getD i []).length := wsubI (by simp only [lenI]; omega)
        by_cases hg : s1 - ((xs.getD i []).length : Int) < 0
        · right
          refine ⟨.inr (), ?_, .inr rfl⟩
          unfold laws_szStringS_B1
          simp only [show decide ((i : Int) < lenI xs) = true from ltN hi, cond_true, guard_pos (idxN hi), Int.toNat_natCast, e1, show decide (s1 - ((xs.getD i []).length : Int) < 0) = true by simpa using hg]
        · left
          refine ⟨xs.length - (i + 1), (s1 - ((xs.getD i []).length : Int), ((i + 1 : Nat) : Int)), by omega, ?_, i + 1, rfl, by simp only; omega, hi, rfl, by simp only; omega, by simp only; omega, fun j hj => ?_⟩
          · unfold laws_szStringS_B1
            simp only [show decide ((i : Int) < lenI xs) = true from ltN hi, cond_true, guard_pos (idxN hi), Int.toNat_natCast, e1, show decide (s1 - ((xs.getD i []).length : Int) < 0) = false by simpa using hg, cond_false, nextN hi (show xs.length ≤ 4294967296 by omega)]
          · by_cases e : j = i
            · subst e; omega
            · exact k4 j (by omega)
      · right
        have : i = xs.length := by omega
        subst this
        rw [List.take_length] at k3
        refine ⟨.inl s1, ?_, .inl ⟨s1, rfl, k0, fun l hm => ?_, by omega⟩⟩
        · unfold laws_szStringS_B1
          simp only [show decide (((xs.length : Nat) : Int) < lenI xs) = false from geN (Nat.le_refl _), cond_false]
        · obtain ⟨j, hj, rfl⟩ := List.getElem_of_mem hm
          have := k4 j hj
          rw [List.getD_eq_getElem?_getD, List.getElem?_eq_getElem hj] at this
          exact this
    rw [h1, Option.bind_some]
    rcases h2 with ⟨m, rfl, h3, h4, h5⟩ | rfl
    · exact ⟨m, rfl, .inr ⟨hn, h4, h5⟩⟩
    · exact ⟨-1, rfl, .inl (by omega)⟩

theorem toS_ok {xs : List (List UInt8)} (h : xs.length ≤ 1048576) : laws_toStringS xs = some xs := by
  have := loop_to (f := laws_toStringS_B1 xs) xs [] (fun i out hi ho => by
    unfold laws_toStringS_B1
    simp only [show decide ((i : Int) < lenI xs) = true from ltN hi, cond_true, guard_pos (idxN hi), show (0 : Int) ≤ (i : Int) ∧ (i : Int) < lenI out from by simp only [lenI, ho]; omega, guardP, if_true, Int.toNat_natCast, nextN hi (show xs.length ≤ 4294967296 by omega)]
    simp [hi]) (fun out ho => by
    unfold laws_toStringS_B1
    simp only [show decide (((xs.length : Nat) : Int) < lenI xs) = false from geN (Nat.le_refl _), cond_false])
  unfold laws_toStringS
  rw [guard_pos (show _ ∧ _ from ⟨by simp only [lenI]; omega, by simp only [lenI]; omega⟩)]
  simp only [lenI, Int.toNat_natCast, this, Option.bind_some]

theorem JournalOf_law (xs : List (List UInt8)) (hw : WfD (.sl .str) xs) : laws_FnExactJournalOf xs = some true := by
  have hx : xs.length ≤ maxLen := hw.1
  have hl : ∀ l ∈ xs, l.length ≤ maxLen := fun l hm => by
    obtain ⟨i, hi, rfl⟩ := List.getElem_of_mem hm
    exact hw.2 i hi
  obtain ⟨m, h1, h2⟩ := szS_ok hx hl
  unfold laws_FnExactJournalOf
  rw [h1, Option.bind_some]
  by_cases hm : m < 0
  · rw [show decide (m < 0) = true by simpa using hm]; rfl
  · rw [show decide (m < 0) = false by simpa using hm, cond_false]
    rcases h2 with h2 | ⟨h2, h3, h4⟩
    · exact absurd h2 hm
    · have hi : impl_JournalOf xs = some (bif !xs.any nl && decide ((jtext xs 0).length ≤ 16000) then (jtext xs 0, true) else ([], false)) := by
        unfold impl_JournalOf
        rw [guard_pos (show _ ∧ _ from ⟨h2, List.all_eq_true.2 fun l hm => by simpa using h3 l hm⟩), jrn_text xs 0 [] h3 (by omega) (by simp)]
        rfl
      rw [toS_ok h2, Option.bind_some, spec_journal h2 h3 h4, Option.bind_some, Option.bind_some, hi, Option.bind_some]
      generalize (bif !xs.any nl && decide ((jtext xs 0).length ≤ 16000) then (jtext xs 0, true) else ([], false)) = r
      simp only [bne_self_eq_false, cond_false, Option.bind_some, eqS_ok (xs := xs) (by omega), Bool.not_true]

end Go.Proofs
