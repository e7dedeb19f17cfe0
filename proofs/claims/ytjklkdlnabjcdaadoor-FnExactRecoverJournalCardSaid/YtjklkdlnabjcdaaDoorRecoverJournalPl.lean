import Derived.Test.YtjklkdlnabjcdaaDoorRecoverJournalGenA
import Derived.Lib.SplitLaws
import Derived.Lib.ItoaLen
import Derived.Lib.CutLaws
set_option linter.unusedVariables false
set_option linter.unusedSimpArgs false
set_option linter.unusedSectionVars false

namespace Go.Proofs
open Go.Ide Go.IntWalk

-- no lemma for eqStringS: strings
-- no lemma for markStringS: strings
-- no lemma for heldStringS: strings
end Go.Proofs


namespace Go.Proofs
open Go.Ide Go.IntWalk

def ahd (p : List UInt8) : List (List UInt8) → List (List UInt8)
  | [] => [p]
  | h :: t => (p ++ h) :: t

def pcs (c : UInt8) : List UInt8 → List (List UInt8)
  | [] => [[]]
  | b :: l => if b = c then [] :: pcs c l else ahd [b] (pcs c l)

theorem ahd_ne (p : List UInt8) (l : List (List UInt8)) : ahd p l ≠ [] := by cases l <;> simp [ahd]

theorem pcs_ne (c : UInt8) (s : List UInt8) : pcs c s ≠ [] := by
  cases s with
  | nil => simp [pcs]
  | cons b l =>
    unfold pcs
    split
    · simp
    · exact ahd_ne _ _

theorem ahd_length {p : List UInt8} {l : List (List UInt8)} (h : l ≠ []) : (ahd p l).length = l.length := by
  cases l with
  | nil => exact absurd rfl h
  | cons => rfl

theorem pcs_length (c : UInt8) : ∀ s : List UInt8, (pcs c s).length = s.count c + 1
  | [] => rfl
  | b :: l => by
    unfold pcs
    split
    · rename_i e
      subst e
      simp [pcs_length b l]
    · rename_i e
      rw [ahd_length (pcs_ne _ _), pcs_length c l, List.count_cons_of_ne (by simpa using e)]

theorem ahd_ahd {p q : List UInt8} {l : List (List UInt8)} (h : l ≠ []) : ahd p (ahd q l) = ahd (p ++ q) l := by
  cases l with
  | nil => exact absurd rfl h
  | cons => simp [ahd]

theorem ahd_nil {l : List (List UInt8)} (h : l ≠ []) : ahd [] l = l := by
  cases l with
  | nil => exact absurd rfl h
  | cons => rfl

end Go.Proofs


namespace Go.Proofs
open Go.Ide Go.IntWalk

theorem cutS_hit {a : List UInt8} {c : UInt8} {st i : Nat} {out : List (List UInt8)} (h : a.length ≤ 1048576) (hi : i ≤ a.length) (hs : st ≤ i) (ho : out.length ≤ i) (hb : i = a.length ∨ ∃ hi : i < a.length, a[i] = c) :
    spec_l01Cut_B1 a ((c.toNat : Nat) : Int) ((st : Int), (i : Int), out) = some (.inl (((i + 1 : Nat) : Int), ((i + 1 : Nat) : Int), out ++ [cut a st i])) := by
  have e0 : decide ((i : Int) ≤ lenI a) = true := by simp only [lenI, decide_eq_true_eq]; omega
  have e1 : (bif ((i : Int) == lenI a) then some true else guardP ((0 : Int) ≤ (i : Int) ∧ (i : Int) < lenI a) (some ((((List.getD a (Int.toNat (i : Int)) 0 : UInt8).toNat : Nat) : Int) == ((c.toNat : Nat) : Int)))) = some true := by
    rcases hb with e | ⟨hl, e⟩
    · subst e
      simp [lenI]
    · have q : ((i : Int) == lenI a) = false := by rw [beq_eq_false_iff_ne]; simp only [lenI]; omega
      rw [q, cond_false, guard_pos (show _ ∧ _ from ⟨by omega, by simp only [lenI]; omega⟩), Int.toNat_natCast, List.getD_eq_getElem?_getD, List.getElem?_eq_getElem hl]
      simp [e]
  have e2 : wadd .i64 (i : Int) 1 = ((i + 1 : Nat) : Int) := nextN (n := i + 1) (by omega) (by omega)
  unfold spec_l01Cut_B1
  simp only [e0, cond_true, e1, Option.bind_some, e2]
  rw [guard_pos (show _ ∧ _ ∧ _ from ⟨by omega, by omega, by simp only [lenI]; omega⟩), guard_pos (by simp only [List.length_cons, List.length_nil]; unfold appMax; omega)]
  rfl

theorem cutS_miss {a : List UInt8} {c : UInt8} {st i : Nat} {out : List (List UInt8)} (h : a.length ≤ 1048576) (hi : i < a.length) (hb : a[i] ≠ c) :
    spec_l01Cut_B1 a ((c.toNat : Nat) : Int) ((st : Int), (i : Int), out) = some (.inl ((st : Int), ((i + 1 : Nat) : Int), out)) := by
  have e0 : decide ((i : Int) ≤ lenI a) = true := by simp only [lenI, decide_eq_true_eq]; omega
  have e1 : (bif ((i : Int) == lenI a) then some true else guardP ((0 : Int) ≤ (i : Int) ∧ (i : Int) < lenI a) (some ((((List.getD a (Int.toNat (i : Int)) 0 : UInt8).toNat : Nat) : Int) == ((c.toNat : Nat) : Int)))) = some false := by
    have q : ((i : Int) == lenI a) = false := by rw [beq_eq_false_iff_ne]; simp only [lenI]; omega
    rw [q, cond_false, guard_pos (show _ ∧ _ from ⟨by omega, by simp only [lenI]; omega⟩), Int.toNat_natCast, List.getD_eq_getElem?_getD, List.getElem?_eq_getElem hi]
    have : ((((a[i] : UInt8).toNat : Nat) : Int) == ((c.toNat : Nat) : Int)) = false := by
      rw [beq_eq_false_iff_ne]
      intro e
      exact hb (UInt8.toNat_inj.1 (Int.ofNat.inj e))
    simp [this]
  have e2 : wadd .i64 (i : Int) 1 = ((i + 1 : Nat) : Int) := nextN (n := i + 1) (by omega) (by omega)
  unfold spec_l01Cut_B1
  simp only [e0, cond_true, e1, Option.bind_some, e2, cond_false]

theorem cutS_end {a : List UInt8} {c : Int} {st : Int} {out : List (List UInt8)} (h : a.length ≤ 1048576) :
    spec_l01Cut_B1 a c (st, ((a.length + 1 : Nat) : Int), out) = some (.inr out) := by
  have e0 : decide ((((a.length + 1 : Nat)) : Int) ≤ lenI a) = false := by simp only [lenI, decide_eq_false_iff_not]; omega
  unfold spec_l01Cut_B1
  simp only [e0, cond_false]

theorem cut_self {a : List UInt8} {i : Nat} : cut a (i : Int) (i : Int) = [] := by
  simp [cut]

theorem cut_snoc {a : List UInt8} {st i : Nat} (hs : st ≤ i) (hi : i < a.length) : cut a (st : Int) ((i + 1 : Nat) : Int) = cut a (st : Int) (i : Int) ++ [a[i]] := by
  unfold cut
  rw [Int.toNat_natCast, Int.toNat_natCast, Int.toNat_natCast, show i + 1 - st = (i - st) + 1 by omega, List.take_add_one]
  congr 1
  rw [List.getElem?_drop, show st + (i - st) = i by omega, List.getElem?_eq_getElem hi]
  rfl

theorem cut_ok {a : List UInt8} (c : UInt8) (h : a.length ≤ 1048576) : spec_l01Cut a ((c.toNat : Nat) : Int) = some (pcs c a) := by
  obtain ⟨r, h1, h2⟩ : ∃ r, rounds (spec_l01Cut_B1 a ((c.toNat : Nat) : Int)) ((0 : Int), (0 : Int), ([] : List (List UInt8))) = some r ∧ r = pcs c a := by
    refine rounds_inv (fun n s => (∃ (st i : Nat) (out : List (List UInt8)), s = ((st : Int), (i : Int), out) ∧ st ≤ i ∧ i ≤ a.length ∧ n = a.length + 1 - i ∧ out.length ≤ i ∧ out ++ ahd (cut a st i) (pcs c (a.drop i)) = pcs c a) ∨
      ∃ st : Int, n = 0 ∧ s = (st, ((a.length + 1 : Nat) : Int), pcs c a)) (fun r => r = pcs c a) (fun n s hR => ?_) (a.length + 1) _ (.inl ⟨0, 0, [], rfl, Nat.le_refl _, Nat.zero_le _, rfl, Nat.zero_le _, ?_⟩)
    · rcases hR with ⟨st, i, out, rfl, k1, k2, k3, k4, k5⟩ | ⟨st, k0, rfl⟩
      · left
        by_cases hl : i = a.length
        · refine ⟨0, _, by omega, cutS_hit h k2 k1 k4 (.inl hl), .inr ⟨((i + 1 : Nat) : Int), rfl, ?_⟩⟩
          subst hl
          rw [List.drop_length] at k5
          rw [← k5]
          simp [pcs, ahd]
        · have hlt : i < a.length := by omega
          have hd : a.drop i = a[i] :: a.drop (i + 1) := List.drop_eq_getElem_cons hlt
          rw [hd] at k5
          by_cases e : a[i] = c
          · refine ⟨a.length + 1 - (i + 1), _, by omega, cutS_hit h k2 k1 k4 (.inr ⟨hlt, e⟩), .inl ⟨i + 1, i + 1, _, rfl, Nat.le_refl _, hlt, rfl, by simp; omega, ?_⟩⟩
            rw [cut_self, ahd_nil (pcs_ne _ _), ← k5]
            simp [pcs, e, ahd]
          · refine ⟨a.length + 1 - (i + 1), _, by omega, cutS_miss h hlt e, .inl ⟨st, i + 1, _, rfl, by omega, hlt, rfl, by omega, ?_⟩⟩
            rw [cut_snoc k1 hlt, ← ahd_ahd (pcs_ne _ _), ← k5]
            simp [pcs, e]
      · exact .inr ⟨_, cutS_end h, rfl⟩
    · have : cut a ((0 : Nat) : Int) ((0 : Nat) : Int) = [] := cut_self
      rw [this, List.drop_zero, ahd_nil (pcs_ne _ _)]
      rfl
  unfold spec_l01Cut
  rw [h1, h2]
  rfl

end Go.Proofs


namespace Go.Proofs
open Go.Ide Go.IntWalk

theorem pcs_pos (c : UInt8) (a : List UInt8) : 1 ≤ (pcs c a).length := by
  rw [pcs_length]; omega

theorem pcs_le (c : UInt8) (a : List UInt8) : (pcs c a).length ≤ a.length + 1 := by
  rw [pcs_length]
  have := List.count_le_length (a := c) (l := a)
  omega

theorem lastI {l : List (List UInt8)} (h : 1 ≤ l.length) (h2 : l.length ≤ 1048577) : wsub .i64 (lenI l) 1 = ((l.length - 1 : Nat) : Int) := by
  rw [wsubI (by simp only [lenI]; omega)]
  simp only [lenI]
  omega

def linesA (a : List UInt8) : List (List UInt8) := (pcs 10 a).take ((pcs 10 a).length - 1)
def restA (a : List UInt8) : List UInt8 := (pcs 10 a).getD ((pcs 10 a).length - 1) []

theorem spec_lines {a : List UInt8} (h : a.length ≤ 1048576) : spec_l08Lines a = some (linesA a, restA a) := by
  have h1 := pcs_pos 10 a
  have h2 := pcs_le 10 a
  unfold spec_l08Lines
  rw [show (10 : Int) = (((10 : UInt8).toNat : Nat) : Int) from rfl, cut_ok 10 h, Option.bind_some, lastI h1 (by omega)]
  rw [guard_pos (show _ ∧ _ from ⟨by omega, by simp only [lenI]; omega⟩), guard_pos (show _ ∧ _ from ⟨by omega, by simp only [lenI]; omega⟩), Int.toNat_natCast, List.drop_zero]
  rfl

end Go.Proofs


namespace Go.Proofs
open Go.Ide Go.IntWalk

def digI (u : Nat) : List Int := (Lib.decDigits u).map fun b => ((b.toNat : Nat) : Int)

theorem digI_small {u : Nat} (h : u < 10) : digI u = [((48 + u : Nat) : Int)] := by
  unfold digI
  rw [Lib.decDigits, dif_pos h, List.map_cons, List.map_nil, UInt8.toNat_ofNat', Nat.mod_eq_of_lt (by omega)]

theorem digI_big {u : Nat} (h : ¬ u < 10) : digI u = digI (u / 10) ++ [((48 + u % 10 : Nat) : Int)] := by
  unfold digI
  rw [Lib.decDigits, dif_neg h, List.map_append, List.map_cons, List.map_nil, UInt8.toNat_ofNat', Nat.mod_eq_of_lt (by omega)]

theorem bytesO_digI (u : Nat) : bytesO (digI u) = Lib.decDigits u := by
  unfold bytesO digI
  rw [List.map_map]
  conv => rhs; rw [← List.map_id (Lib.decDigits u)]
  apply List.map_congr_left
  intro b _
  simp

theorem dec_step {m : Int} {u : Nat} {ds : List Int} (h1 : m.natAbs = u) (h2 : u ≤ 9223372036854775808) (h3 : m ≤ 9223372036854775807) (h4 : ds = [] ∨ m ≠ 0) (h5 : ds.length ≤ 1000) :
    spec_l01Dec_B1 (m, ds) = some (.inl (Int.tdiv m 10, ((48 + u % 10 : Nat) : Int) :: ds)) := by
  have e0 : (bif (lenI ds == 0) then some true else some (m != 0)) = some true := by
    rcases h4 with rfl | h
    · rfl
    · have : (m != 0) = true := by simpa using h
      rw [this]; cases (lenI ds == 0) <;> rfl
  have e1 : (bif decide (Int.tmod m 10 < 0) then some (IntKind.wrap .i64 (0 - Int.tmod m 10)) else some (Int.tmod m 10)) = some ((u % 10 : Nat) : Int) := by
    rcases Int.natAbs_eq m with e | e
    · rw [e, h1]
      have : Int.tmod (u : Int) 10 = ((u % 10 : Nat) : Int) := rfl
      rw [this, show decide (((u % 10 : Nat) : Int) < 0) = false by simp only [decide_eq_false_iff_not]; omega, cond_false]
    · rw [e, h1]
      have : Int.tmod (-(u : Int)) 10 = -((u % 10 : Nat) : Int) := by rw [Int.neg_tmod]; rfl
      rw [this]
      by_cases hz : u % 10 = 0
      · rw [hz]; rfl
      · rw [show decide (-((u % 10 : Nat) : Int) < 0) = true by simp only [decide_eq_true_eq]; omega, cond_true, i64_in _ (by omega)]
        congr 1
        omega
  have e2 : IntKind.wrap .i64 (Int.tdiv m 10) = Int.tdiv m 10 := by
    apply i64_in
    rcases Int.natAbs_eq m with e | e
    · rw [e, h1]
      have : Int.tdiv (u : Int) 10 = ((u / 10 : Nat) : Int) := rfl
      rw [this]; omega
    · rw [e, h1]
      have : Int.tdiv (-(u : Int)) 10 = -((u / 10 : Nat) : Int) := by rw [Int.neg_tdiv]; rfl
      rw [this]; omega
  have e3 : IntKind.wrap .u8 (wadd .i64 48 ((u % 10 : Nat) : Int)) = ((48 + u % 10 : Nat) : Int) := by
    rw [waddI (by omega), u8_in _ (by omega)]; omega
  unfold spec_l01Dec_B1
  simp only [e0, Option.bind_some, cond_true, e1, e2, e3]
  rw [guard_pos (by simp only [List.length_cons, List.length_nil]; unfold appMax; omega)]
  rfl

theorem dec_end {ds : List Int} (h : ds ≠ []) : spec_l01Dec_B1 (0, ds) = some (.inr ds) := by
  have e : (lenI ds == 0) = false := by
    rw [beq_eq_false_iff_ne]
    have := List.length_pos_iff.2 h
    simp only [lenI]; omega
  unfold spec_l01Dec_B1
  simp only [e, cond_false, bne_self_eq_false, Option.bind_some]

theorem tdiv_abs (m : Int) : (Int.tdiv m 10).natAbs = m.natAbs / 10 := by
  rw [Int.natAbs_tdiv]; rfl

theorem dec_rounds : ∀ (u : Nat) (m : Int) (ds : List Int), m.natAbs = u → (ds = [] ∨ u ≠ 0) → u ≤ 9223372036854775808 → m ≤ 9223372036854775807 → ds.length + Lib.nDigits u ≤ 1000 →
    rounds (spec_l01Dec_B1) (m, ds) = some (digI u ++ ds) := by
  intro u
  induction u using Nat.strongRecOn with
  | _ u ih =>
    intro m ds h1 h2 h3 h4 h5
    rw [rounds_eq, dec_step h1 h3 h4 (h2.imp id fun h e => h (by rw [← h1, e]; rfl)) (by omega)]
    show rounds _ _ = _
    by_cases hu : u < 10
    · have e : Int.tdiv m 10 = 0 := by
        have := tdiv_abs m
        omega
      rw [e, rounds_eq, dec_end (by simp), digI_small hu, Nat.mod_eq_of_lt hu]
      rfl
    · have hn : Lib.nDigits u = Lib.nDigits (u / 10) + 1 := by rw [Lib.nDigits, dif_neg hu]
      rw [ih (u / 10) (by omega) _ _ (by rw [tdiv_abs, h1]) (.inr (by omega)) (by omega) (by
        have := tdiv_abs m
        omega) (by simp only [List.length_cons]; omega), digI_big hu]
      simp

theorem nDigits_le {n : Int} (h : -9223372036854775808 ≤ n ∧ n ≤ 9223372036854775807) : Lib.nDigits n.natAbs ≤ 21 := by
  have := Lib.itoa_length_le n h.1 h.2
  unfold Lib.itoa at this
  split at this
  · rw [List.length_cons, Lib.decDigits_length] at this
    omega
  · rw [Lib.decDigits_length, show n.toNat = n.natAbs by omega] at this
    exact this

theorem dec_ok {n : Int} (h : -9223372036854775808 ≤ n ∧ n ≤ 9223372036854775807) : spec_l01Dec n = some (Lib.itoa n) := by
  have hd := nDigits_le h
  unfold spec_l01Dec
  rw [dec_rounds n.natAbs n [] rfl (.inl rfl) (by omega) h.2 (by simp; omega), Option.bind_some, List.append_nil]
  unfold Lib.itoa
  by_cases hn : n < 0
  · rw [show decide (n < 0) = true by simpa using hn, cond_true, if_pos hn, guard_pos (by
      simp only [List.length_cons, List.length_nil]
      unfold digI appMax
      rw [List.length_map, Lib.decDigits_length]
      omega), Option.bind_some]
    show some (bytesO (45 :: digI n.natAbs)) = _
    rw [← bytesO_digI]
    rfl
  · rw [show decide (n < 0) = false by simpa using hn, cond_false, Option.bind_some, bytesO_digI, if_neg hn, show n.toNat = n.natAbs by omega]

theorem impl_dec {n : Int} (h : -9223372036854775808 ≤ n ∧ n ≤ 9223372036854775807) : impl_Decimal n = some (Lib.itoa n) := by
  unfold impl_Decimal strconv_FormatInt
  rw [guard_pos (show _ ∧ _ ∧ _ from ⟨rfl, h.1, h.2⟩)]
  rfl

end Go.Proofs


namespace Go.Proofs
open Go.Ide Go.IntWalk

def fstI (c : UInt8) : List UInt8 → Nat
  | [] => 0
  | b :: l => if b = c then 0 else fstI c l + 1

theorem fstI_le (c : UInt8) : ∀ s : List UInt8, fstI c s ≤ s.length
  | [] => Nat.le_refl _
  | b :: l => by
    have := fstI_le c l
    unfold fstI
    split
    · omega
    · simp; omega

theorem indexByte_fst (c : UInt8) : ∀ s : List UInt8, Lib.indexByte s c = if fstI c s = s.length then -1 else ((fstI c s : Nat) : Int)
  | [] => rfl
  | b :: l => by
    have ih := indexByte_fst c l
    unfold Lib.indexByte fstI
    by_cases e : b = c
    · subst e
      simp
    · have e2 : (b == c) = false := by simpa using e
      rw [e2, if_neg (by simp), if_neg e, ih]
      by_cases h : fstI c l = l.length
      · rw [if_pos h, if_pos (show ((-1 : Int) == -1) = true from rfl), if_pos (show fstI c l + 1 = (b :: l).length by simp [h])]
      · have : (((fstI c l : Nat) : Int) == -1) = false := by rw [beq_eq_false_iff_ne]; omega
        rw [if_neg h, this, if_neg (show ¬ false = true by simp), if_neg (show ¬ fstI c l + 1 = (b :: l).length by simp [h])]
        omega

theorem index_byte (c : UInt8) : ∀ s : List UInt8, Lib.index s [c] = Lib.indexByte s c
  | [] => by simp [Lib.index, Lib.indexByte]
  | b :: l => by
    have ih := index_byte c l
    unfold Lib.indexByte
    by_cases e : b = c
    · subst e
      rw [Lib.index]; simp [List.isPrefixOf]
    · have hp : ([c] : List UInt8).isPrefixOf (b :: l) = false := by simp [List.isPrefixOf, Ne.symm e]
      have e2 : (b == c) = false := by simpa using e
      rw [Lib.index, hp, e2, ih]

theorem cut_fst (c : UInt8) (s : List UInt8) : Lib.cut s [c] = if fstI c s = s.length then (s, [], false) else (s.take (fstI c s), s.drop (fstI c s + 1), true) := by
  unfold Lib.cut
  rw [index_byte, indexByte_fst]
  by_cases h : fstI c s = s.length
  · rw [if_pos h, if_pos h]; rfl
  · rw [if_neg h, if_neg h, if_pos (by omega)]
    simp

theorem pcs_fst (c : UInt8) : ∀ s : List UInt8, pcs c s = if fstI c s = s.length then [s] else s.take (fstI c s) :: pcs c (s.drop (fstI c s + 1))
  | [] => rfl
  | b :: l => by
    have ih := pcs_fst c l
    rw [show pcs c (b :: l) = if b = c then [] :: pcs c l else ahd [b] (pcs c l) from rfl, show fstI c (b :: l) = if b = c then 0 else fstI c l + 1 from rfl]
    by_cases e : b = c
    · rw [if_pos e, if_pos e]
      simp
    · rw [if_neg e, if_neg e, ih]
      by_cases h : fstI c l = l.length
      · rw [if_pos h, if_pos (by simp [h])]; rfl
      · rw [if_neg h, if_neg (by simp [h])]
        simp [ahd]

theorem scan_ok {y1 : List (List UInt8) × List UInt8} {s3 : Int × Int × Int × List (List UInt8)} {j : Nat} (hj : s3.2.2.1 = (j : Int)) (hl : j < y1.1.length) (hs : (List.getD y1.1 j []).length ≤ 1048576) :
    rounds (spec_l08Recover_B1 y1 s3) (0 : Int) = some ((fstI 32 (List.getD y1.1 j []) : Nat) : Int) := by
  obtain ⟨r, h1, h2⟩ : ∃ r, rounds (spec_l08Recover_B1 y1 s3) (0 : Int) = some r ∧ r = ((fstI 32 (List.getD y1.1 j []) : Nat) : Int) := by
    refine rounds_inv (fun n s => ∃ i : Nat, s = (i : Int) ∧ i ≤ (List.getD y1.1 j []).length ∧ n = (List.getD y1.1 j []).length - i ∧ i + fstI 32 ((List.getD y1.1 j []).drop i) = fstI 32 (List.getD y1.1 j []))
      (fun r => r = ((fstI 32 (List.getD y1.1 j []) : Nat) : Int)) (fun n s hR => ?_) (List.getD y1.1 j []).length _ ⟨0, rfl, Nat.zero_le _, rfl, by simp⟩
    obtain ⟨i, rfl, k1, k2, k3⟩ := hR
    have hg : (0 : Int) ≤ s3.2.2.1 ∧ s3.2.2.1 < lenI y1.1 := by rw [hj]; simp only [lenI]; omega
    by_cases hi : i < (List.getD y1.1 j []).length
    · have hd : (List.getD y1.1 j []).drop i = (List.getD y1.1 j [])[i] :: (List.getD y1.1 j []).drop (i + 1) := List.drop_eq_getElem_cons hi
      have hget : List.getD (List.getD y1.1 j []) i 0 = (List.getD y1.1 j [])[i] := by
        rw [List.getD_eq_getElem?_getD, List.getElem?_eq_getElem hi]; rfl
      rw [hd, fstI] at k3
      have hv : (bif decide ((i : Int) < lenI (List.getD y1.1 (Int.toNat s3.2.2.1) [])) then guardP ((0 : Int) ≤ (i : Int) ∧ (i : Int) < lenI (List.getD y1.1 (Int.toNat s3.2.2.1) [])) (some (((((List.getD (List.getD y1.1 (Int.toNat s3.2.2.1) []) (Int.toNat (i : Int)) 0 : UInt8).toNat : Nat)) : Int) != (32 : Int))) else some false) =
          some (decide ((List.getD y1.1 j [])[i] ≠ 32)) := by
        rw [hj, Int.toNat_natCast, Int.toNat_natCast, show decide ((i : Int) < lenI (List.getD y1.1 j [])) = true from ltN hi, cond_true, guard_pos (idxN hi), hget]
        congr 1
        by_cases e : (List.getD y1.1 j [])[i] = 32
        · rw [e]; rfl
        · rw [show decide ((List.getD y1.1 j [])[i] ≠ 32) = true by simpa using e]
          rw [bne_iff_ne]
          intro q
          apply e
          apply UInt8.toNat_inj.1
          show _ = 32
          omega
      by_cases e : (List.getD y1.1 j [])[i] = 32
      · right
        rw [if_pos e] at k3
        refine ⟨_, ?_, rfl⟩
        unfold spec_l08Recover_B1
        rw [guard_pos hg]
        simp only [hv, Option.bind_some, show decide ((List.getD y1.1 j [])[i] ≠ 32) = false by simpa using e, cond_false]
        congr 2
        omega
      · left
        rw [if_neg e] at k3
        refine ⟨(List.getD y1.1 j []).length - (i + 1), ((i + 1 : Nat) : Int), by omega, ?_, i + 1, rfl, hi, rfl, by omega⟩
        unfold spec_l08Recover_B1
        rw [guard_pos hg]
        simp only [hv, Option.bind_some, show decide ((List.getD y1.1 j [])[i] ≠ 32) = true by simpa using e, cond_true]
        rw [nextN (n := i + 1) (by omega) (by omega)]
    · right
      have e : i = (List.getD y1.1 j []).length := by omega
      have hv : (bif decide ((i : Int) < lenI (List.getD y1.1 (Int.toNat s3.2.2.1) [])) then guardP ((0 : Int) ≤ (i : Int) ∧ (i : Int) < lenI (List.getD y1.1 (Int.toNat s3.2.2.1) [])) (some (((((List.getD (List.getD y1.1 (Int.toNat s3.2.2.1) []) (Int.toNat (i : Int)) 0 : UInt8).toNat : Nat)) : Int) != (32 : Int))) else some false) = some false := by
        rw [hj, Int.toNat_natCast, show decide ((i : Int) < lenI (List.getD y1.1 j [])) = false from geN (by omega), cond_false]
      refine ⟨_, ?_, rfl⟩
      unfold spec_l08Recover_B1
      rw [guard_pos hg]
      simp only [hv, Option.bind_some, cond_false]
      rw [List.drop_eq_nil_of_le (by omega)] at k3
      have k3 : i + 0 = _ := k3
      congr 2
      omega
  rw [h1, h2]

end Go.Proofs


namespace Go.Proofs
open Go.Ide Go.IntWalk

def chkT (s : List UInt8) (i : Nat) (n : Int) : Int := Int.tmod (wadd .i64 (wadd .i64 (wmul .i64 919 n) (IntKind.wrap .i64 (ub s i))) 191) 65003
def chkF (c : Int) (s : List UInt8) : Int := forS (chkT s) s.length 0 c

theorem chkT_range {s : List UInt8} {i : Nat} {n : Int} (h : 0 ≤ n ∧ n ≤ 65002) : 0 ≤ chkT s i n ∧ chkT s i n ≤ 65002 := by
  have hu := ub_range s i
  unfold chkT
  rw [ub_wrap, wmulI (by omega), waddI (a := 919 * n) (b := ub s i) (by omega), waddI (by omega)]
  have h1 : 0 ≤ 919 * n + ub s i + 191 := by omega
  have h2 := Int.tmod_nonneg 65003 h1
  have h3 := Int.tmod_lt_of_pos (919 * n + ub s i + 191) (show (0 : Int) < 65003 by decide)
  omega

theorem spec_checkF {s : List UInt8} {c : Int} (h : s.length ≤ 4294967296) (hc : 0 ≤ c ∧ c ≤ 65002) : spec_l01Check c s = some (chkF c s) ∧ 0 ≤ chkF c s ∧ chkF c s ≤ 65002 := by
  have := rounds_forS (f := spec_l01Check_B1 s) (fun i n => (n, ((i : Nat) : Int))) (chkT s) id (n := s.length) (fun i n => 0 ≤ n ∧ n ≤ 65002) (fun i n hi hn => ⟨by
    unfold spec_l01Check_B1
    have e : ((((List.getD s i 0 : UInt8).toNat : Nat)) : Int) = ub s i := rfl
    simp only [ltN hi, cond_true, guard_pos (idxN hi), Int.toNat_natCast, nextN hi h, e]
    rfl, chkT_range hn⟩) (fun n _ => by
    unfold spec_l01Check_B1
    simp only [geN (Nat.le_refl _), cond_false]; rfl) s.length 0 c (by omega) hc
  simp only [Int.natCast_zero] at this
  refine ⟨?_, this.2⟩
  unfold spec_l01Check
  simp only [this.1, Option.bind_some]
  rfl

theorem impl_checkF {s : List UInt8} {c : Int} (h : s.length ≤ 4294967296) (hc : 0 ≤ c ∧ c ≤ 65002) : impl_CheckOf c s = some (chkF c s, true) := by
  have h1 := (spec_checkF h hc).1
  have hw : impl_within c 0 65002 = some true := by
    unfold impl_within
    rw [show decide (c ≥ 0) = true by simpa using hc.1, show decide (c ≤ 65002) = true by simpa using hc.2]
    rfl
  unfold impl_CheckOf
  rw [hw, Option.bind_some]
  unfold spec_l01Check at h1
  rw [show impl_CheckOf_B1 s = spec_l01Check_B1 s from rfl]
  cases hr : rounds (spec_l01Check_B1 s) (c, (0 : Int)) with
  | none => rw [hr] at h1; cases h1
  | some r =>
    rw [hr] at h1
    injection h1 with h1
    show some (r, true) = _
    rw [h1]

end Go.Proofs


namespace Go.Proofs
open Go.Ide Go.IntWalk

theorem pcs_one {c : UInt8} {s : List UInt8} (h : (pcs c s).length = 1) : fstI c s = s.length := by
  rw [pcs_fst] at h
  by_cases e : fstI c s = s.length
  · exact e
  · rw [if_neg e] at h
    simp at h
    exact absurd h (pcs_ne _ _)

theorem pcs_more {c : UInt8} {s : List UInt8} (h : 2 ≤ (pcs c s).length) : fstI c s < s.length ∧ pcs c s = s.take (fstI c s) :: pcs c (s.drop (fstI c s + 1)) := by
  have hp := pcs_fst c s
  have hl := fstI_le c s
  by_cases e : fstI c s = s.length
  · rw [if_pos e] at hp
    rw [hp] at h
    simp at h
  · rw [if_neg e] at hp
    exact ⟨by omega, hp⟩

theorem cut_end {a : List UInt8} {i : Nat} : cut a (i : Int) (lenI a) = a.drop i := by
  unfold cut
  simp only [lenI, Int.toNat_natCast]
  rw [List.take_of_length_le]
  rw [List.length_drop]; omega

theorem cut_at {a : List UInt8} {i n : Nat} : cut a (i : Int) ((i + n : Nat) : Int) = (a.drop i).take n := by
  unfold cut
  simp only [Int.toNat_natCast]
  rw [Nat.add_sub_cancel_left]

def RecR (a : List UInt8) (n : Nat) (s : Int × Int × Int × List (List UInt8)) (t : Int × Int × List (List UInt8)) : Prop :=
  ∃ (c : Int) (off i : Nat) (out : List (List UInt8)), s = (c, (off : Int), (i : Int), out) ∧ t = (c, (off : Int), out) ∧ 0 ≤ c ∧ c ≤ 65002 ∧ off ≤ a.length ∧ i < (pcs 10 a).length ∧ out.length ≤ i ∧ pcs 10 (a.drop off) = (pcs 10 a).drop i ∧ n = (pcs 10 a).length - i

theorem itoa_i {c : Int} (h : 0 ≤ c ∧ c ≤ 65002) : -9223372036854775808 ≤ c ∧ c ≤ 9223372036854775807 := by omega

theorem rec_step {a : List UInt8} (h : a.length ≤ 1048576) {n : Nat} {s : Int × Int × Int × List (List UInt8)} {t : Int × Int × List (List UInt8)} (hR : RecR a n s t) :
    (∃ n' s' t', n' < n ∧ spec_l08Recover_B2 (linesA a, restA a) s = some (.inl s') ∧ impl_recovered_B1 a t = some (.inl t') ∧ RecR a n' s' t') ∨
    (∃ r r', spec_l08Recover_B2 (linesA a, restA a) s = some (.inr r) ∧ impl_recovered_B1 a t = some (.inr r') ∧ r = r' ∧ r.2.length ≤ 1048577) := by
  obtain ⟨c, off, i, out, rfl, rfl, hc0, hc1, ho, hi, hout, hp, rfl⟩ := hR
  have hple := pcs_le 10 a
  have hll : (linesA a).length = (pcs 10 a).length - 1 := by unfold linesA; rw [List.length_take]; omega
  have hplen : (pcs 10 (a.drop off)).length = (pcs 10 a).length - i := by rw [hp, List.length_drop]
  have hib : ∀ s : List UInt8, strings_IndexByte s 10 = some (Lib.indexByte s 10) := fun s => rfl
  have hg0 : (0 : Int) ≤ (off : Int) ∧ (off : Int) ≤ lenI a := by simp only [lenI]; omega
  by_cases hl : i < (linesA a).length
  · obtain ⟨hf, hq⟩ := pcs_more (c := 10) (s := a.drop off) (by omega)
    rw [List.length_drop] at hf
    generalize hfe : fstI 10 (a.drop off) = f at hf hq
    have hix : Lib.indexByte (a.drop off) 10 = (f : Int) := by
      rw [indexByte_fst, hfe, if_neg (by rw [List.length_drop]; omega)]
    have hpd := hp
    rw [hq, List.drop_eq_getElem_cons hi] at hpd
    injection hpd with hw hrest
    have hln : List.getD (linesA a) i [] = (a.drop off).take f := by
      rw [hw, List.getD_eq_getElem?_getD, List.getElem?_eq_getElem hl]
      unfold linesA
      exact List.getElem_take
    generalize hwe : (a.drop off).take f = w at hw hln
    have hwl : w.length = f := by rw [← hwe, List.length_take, List.length_drop]; omega
    have hscan := scan_ok (y1 := (linesA a, restA a)) (s3 := (c, (off : Int), (i : Int), out)) (j := i) rfl hl (by rw [hln]; omega)
    simp only [hln] at hscan
    have hgi : (0 : Int) ≤ (i : Int) ∧ (i : Int) < lenI (linesA a) := by simp only [lenI]; omega
    have hgl := fstI_le 32 w
    have hcut : strings_Cut (cut a (off : Int) (wadd .i64 (off : Int) (f : Int))) ([32] : List UInt8) = some (Lib.cut w [32]) := by
      rw [waddI (by omega), show (off : Int) + (f : Int) = ((off + f : Nat) : Int) by omega, cut_at, hwe]
      unfold strings_Cut
      rw [guard_pos (by omega)]
    have hgo : (0 : Int) ≤ (off : Int) ∧ (off : Int) ≤ (wadd .i64 (off : Int) (f : Int)) ∧ (wadd .i64 (off : Int) (f : Int)) ≤ lenI a := by
      rw [waddI (by omega)]; simp only [lenI]; omega
    have hst := Eq.refl (spec_l08Recover_B2 (linesA a, restA a) (c, (off : Int), (i : Int), out))
    have him := Eq.refl (impl_recovered_B1 a (c, (off : Int), out))
    conv at hst => rhs; unfold spec_l08Recover_B2
    conv at him => rhs; unfold impl_recovered_B1
    simp only [show decide ((i : Int) < lenI (linesA a)) = true by simpa using hgi.2, cond_true, hscan, Option.bind_some, guard_pos hgi, Int.toNat_natCast, hln] at hst
    simp only [guard_pos hg0, cut_end, hib, hix, Option.bind_some, show decide ((f : Int) < 0) = false by simp only [decide_eq_false_iff_not]; omega, cond_false, guard_pos hgo, hcut, cut_fst] at him
    by_cases hg : fstI 32 w = w.length
    · right
      rw [show (((fstI 32 w : Nat) : Int) == lenI w) = true by rw [hg]; simp [lenI], cond_true] at hst
      simp only [if_pos hg] at him
      rw [impl_checkF (s := []) (by simp) ⟨hc0, hc1⟩, Option.bind_some] at him
      refine ⟨_, _, hst, him, rfl, ?_⟩
      show out.length ≤ _
      omega
    · have hwn : (((fstI 32 w : Nat) : Int) == lenI w) = false := by rw [beq_eq_false_iff_ne]; simp only [lenI]; omega
      have hg1 : (0 : Int) ≤ wadd .i64 ((fstI 32 w : Nat) : Int) 1 ∧ wadd .i64 ((fstI 32 w : Nat) : Int) 1 ≤ lenI w := by
        rw [waddI (by omega)]; simp only [lenI]; omega
      have hd1 : cut w (wadd .i64 ((fstI 32 w : Nat) : Int) 1) (lenI w) = w.drop (fstI 32 w + 1) := by
        rw [waddI (by omega), show ((fstI 32 w : Nat) : Int) + 1 = ((fstI 32 w + 1 : Nat) : Int) by omega, cut_end]
      have hg2 : (0 : Int) ≤ ((fstI 32 w : Nat) : Int) ∧ ((fstI 32 w : Nat) : Int) ≤ lenI w := by simp only [lenI]; omega
      have hd2 : cut w 0 ((fstI 32 w : Nat) : Int) = w.take (fstI 32 w) := by
        have := cut_at (a := w) (i := 0) (n := fstI 32 w)
        simpa using this
      obtain ⟨hk, hk1, hk2⟩ := spec_checkF (s := w.drop (fstI 32 w + 1)) (c := c) (by rw [List.length_drop]; omega) ⟨hc0, hc1⟩
      have hk' := impl_checkF (s := w.drop (fstI 32 w + 1)) (c := c) (by rw [List.length_drop]; omega) ⟨hc0, hc1⟩
      simp only [hwn, cond_false, guard_pos hg1, hd1, Option.bind_some, hk, guard_pos hg2, hd2, dec_ok (itoa_i ⟨hk1, hk2⟩)] at hst
      simp only [if_neg hg, hk', Option.bind_some, Bool.not_true, cond_false, impl_dec (itoa_i ⟨hk1, hk2⟩)] at him
      by_cases he : w.take (fstI 32 w) = Lib.itoa (chkF c (w.drop (fstI 32 w + 1)))
      · left
        have e1 : (w.take (fstI 32 w) != Lib.itoa (chkF c (w.drop (fstI 32 w + 1)))) = false := by simpa using he
        simp only [e1, cond_false] at hst him
        have ha : out.length + ([w.drop (fstI 32 w + 1)] : List (List UInt8)).length ≤ appMax := by
          simp only [List.length_cons, List.length_nil]; unfold appMax; omega
        rw [guard_pos ha] at hst him
        refine ⟨(pcs 10 a).length - (i + 1), _, _, by omega, hst, him, ?_⟩
        refine ⟨chkF c (w.drop (fstI 32 w + 1)), off + (f + 1), i + 1, out ++ [w.drop (fstI 32 w + 1)], ?_, ?_, hk1, hk2, by omega, by omega, by simp; omega, ?_, rfl⟩
        · rw [show wadd .i64 (i : Int) 1 = ((i + 1 : Nat) : Int) from nextN (n := i + 1) (by omega) (by omega)]
          simp only [lenI, hwl]
          rw [waddI (a := (f : Int)) (b := 1) (by omega), waddI (by omega)]
          congr 2
        · rw [waddI (a := (f : Int)) (b := 1) (by omega), waddI (by omega)]
          congr 2
        · rw [← List.drop_drop]
          exact hrest
      · right
        have e1 : (w.take (fstI 32 w) != Lib.itoa (chkF c (w.drop (fstI 32 w + 1)))) = true := by simpa using he
        simp only [e1, cond_true] at hst him
        refine ⟨_, _, hst, him, rfl, ?_⟩
        show out.length ≤ _
        omega
  · right
    have hf := pcs_one (c := 10) (s := a.drop off) (by omega)
    have hix : Lib.indexByte (a.drop off) 10 = -1 := by rw [indexByte_fst, if_pos hf]
    refine ⟨((off : Int), out), ((off : Int), out), ?_, ?_, rfl, by show out.length ≤ _; omega⟩
    · unfold spec_l08Recover_B2
      simp only [show decide ((i : Int) < lenI (linesA a)) = false by simp only [decide_eq_false_iff_not, lenI]; omega, cond_false]
    · unfold impl_recovered_B1
      simp only [guard_pos hg0, cut_end, hib, hix, Option.bind_some]
      rfl

theorem recover_both {a : List UInt8} (h : a.length ≤ 1048576) : ∃ r, spec_l08Recover a = some r ∧ impl_recovered a = some r ∧ r.1.length ≤ 1048577 := by
  have hpos := pcs_pos 10 a
  obtain ⟨r, r', h1, h2, h3, h4⟩ := rounds_rel (f := spec_l08Recover_B2 (linesA a, restA a)) (g := impl_recovered_B1 a) (RecR a) (fun r r' => r = r' ∧ r.2.length ≤ 1048577)
    (fun n s t hR => rec_step h hR) _ ((0 : Int), (0 : Int), (0 : Int), ([] : List (List UInt8))) ((0 : Int), (0 : Int), ([] : List (List UInt8)))
    ⟨0, 0, 0, [], rfl, rfl, by omega, by omega, Nat.zero_le _, by omega, Nat.le_refl _, by rw [List.drop_zero, List.drop_zero], rfl⟩
  subst h3
  refine ⟨(r.2, r.1), ?_, ?_, h4⟩
  · unfold spec_l08Recover
    rw [spec_lines h, Option.bind_some, h1]; rfl
  · unfold impl_recovered
    rw [h2]; rfl

end Go.Proofs


namespace Go.Proofs
open Go.Ide Go.IntWalk

theorem markText_some {k : Int} (h : k ≤ 9223372036854775807) : ∃ t, laws_markText k = some t := by
  unfold laws_markText
  by_cases h0 : k ≤ 0
  · rw [show decide (k ≤ 0) = true by simpa using h0, cond_true]
    exact ⟨_, rfl⟩
  · rw [show decide (k ≤ 0) = false by simpa using h0, cond_false]
    obtain ⟨r, h1, h2⟩ : ∃ r, rounds laws_markText_B1 (k, ([] : List UInt8)) = some r ∧ r.length ≤ 100 := by
      refine rounds_inv (f := laws_markText_B1) (fun (n : Nat) (s : Int × List UInt8) => 0 ≤ s.1 ∧ s.1 < ((10 ^ n : Nat) : Int) ∧ s.1 ≤ 9223372036854775807 ∧ s.2.length + n ≤ 50) (fun (r : List UInt8) => r.length ≤ 100) (fun n s hR => ?_) 19 _ ⟨by simp only; omega, by simp only; omega, h, by simp⟩
      obtain ⟨m, acc⟩ := s
      obtain ⟨k1, k2, k3, k4⟩ := hR
      simp only at k1 k2 k3 k4
      by_cases hm : 0 < m
      · left
        cases n with
        | zero => simp at k2; omega
        | succ n =>
          have e1 : Int.tdiv m 10 = ((m.toNat / 10 : Nat) : Int) := by
            conv => lhs; rw [show m = ((m.toNat : Nat) : Int) by omega]
            rfl
          have e2 : IntKind.wrap .i64 (Int.tdiv m 10) = ((m.toNat / 10 : Nat) : Int) := by rw [e1]; exact i64_in _ (by omega)
          refine ⟨n, (((m.toNat / 10 : Nat) : Int), bytesO [IntKind.wrap .u8 (wadd .i64 48 (Int.tmod m 10))] ++ acc), by omega, ?_, by simp only; omega, ?_, by simp only; omega, by simp only [bytesO, List.map_cons, List.map_nil, List.cons_append, List.nil_append, List.length_cons]; omega⟩
          · unfold laws_markText_B1
            simp only [show decide (m > 0) = true by simpa using hm, cond_true, e2, Option.bind_some]
            rw [guard_pos (by simp only [bytesO, List.map_cons, List.map_nil, List.length_cons, List.length_nil]; unfold appMax; omega)]
          · simp only
            rw [Nat.pow_succ] at k2
            omega
      · right
        refine ⟨acc, ?_, by omega⟩
        unfold laws_markText_B1
        simp only [show decide (m > 0) = false by simpa using hm, cond_false]
    rw [h1, Option.bind_some, guard_pos (by simp only [List.length_cons, List.length_nil]; unfold appMax; omega)]
    exact ⟨_, rfl⟩

noncomputable def markE (k : Int) (_ : List UInt8) : Int × List UInt8 := (k + 1, (laws_markText k).getD [])

theorem markText_E {k : Int} (h : k ≤ 9223372036854775807) (x : List UInt8) : laws_markText k = some (markE k x).2 := by
  obtain ⟨t, ht⟩ := markText_some h
  unfold markE
  rw [ht]; rfl

theorem markE_le (k : Int) (xs : List (List UInt8)) : (markRows markE k xs).1 = k + xs.length := by
  induction xs generalizing k with
  | nil => simp [markRows]
  | cons x r ih =>
    simp only [markRows, ih, markE, List.length_cons]
    omega

theorem markS_ok {xs : List (List UInt8)} (h : xs.length ≤ 4000000) : laws_markStringS xs 1 = some (markRows markE 1 xs) := by
  have := loop_markE (f := laws_markStringS_B1) markE 1 1 xs [] (fun k x _ => by simp only [markE]; omega) (fun k i out hi ho _ hk1 hk2 => by
    unfold laws_markStringS_B1
    have e : lenI out = (xs.length : Int) := by simp only [lenI, ho]
    simp only [e, ltN hi, cond_true, guard_pos (idxN hi), markText_E (k := k) (by omega) (xs.getD i []), Option.bind_some, Int.toNat_natCast, nextN hi (show xs.length ≤ 4294967296 by omega)]
    rw [waddI (by omega)]
    rfl) (fun k out ho => by
    unfold laws_markStringS_B1
    simp only [lenI, ho, geN (Nat.le_refl _), cond_false])
  unfold laws_markStringS
  rw [this, Option.bind_some, guard_pos (markRows_len _ _ _)]

theorem heldS_ok {xs : List (List UInt8)} (h : xs.length ≤ 4000000) : laws_heldStringS (markRows markE 1 xs).2 1 = some (1 + (xs.length : Int)) := by
  have hl := markRows_len markE xs 1
  have := loop_heldE (f := laws_heldStringS_B1 (markRows markE 1 xs).2) markE 1 xs [] (fun i hi => by
    unfold laws_heldStringS_B1
    have hk : (markRows markE 1 (xs.take i)).1 = 1 + (i : Int) := by rw [markE_le, List.length_take, Nat.min_eq_left (by omega)]
    have e : lenI (markRows markE 1 xs).2 = (xs.length : Int) := by simp only [lenI, hl]
    simp only [e, ltN hi, cond_true, guard_pos (idxN hi), hk, markText_E (k := 1 + (i : Int)) (by omega) (xs.getD i []), Option.bind_some, Int.toNat_natCast, nextN hi (show xs.length ≤ 4294967296 by omega)]
    rw [markRows_at markE [] xs 1 i hi, hk, waddI (by omega)]
    simp [markE]) (fun k => by
    unfold laws_heldStringS_B1
    simp only [lenI, hl, geN (Nat.le_refl _), cond_false])
  unfold laws_heldStringS
  rw [this, Option.bind_some, markE_le]

theorem eqS_ok {xs : List (List UInt8)} (h : xs.length ≤ 4000000) : laws_eqStringS xs xs = some true := by
  have := rounds_all (f := laws_eqStringS_B1 xs xs) (fun i => ((i : Nat) : Int)) (fun _ => true) (.inl ()) (.inr ()) (n := xs.length) (fun i hi => by
    unfold laws_eqStringS_B1
    simp only [lenI, ltN hi, cond_true, guard_pos (idxN hi), bne_self_eq_false, cond_false, nextN hi (show xs.length ≤ 4294967296 by omega)]) (by
    unfold laws_eqStringS_B1
    simp only [lenI, geN (Nat.le_refl _), cond_false]) xs.length 0 (by omega)
  have hn : ∀ k i, allN (fun _ => true) k i = true := by
    intro k
    induction k with
    | zero => intro i; rfl
    | succ k ih => intro i; simp [allN, ih]
  rw [hn, cond_true] at this
  unfold laws_eqStringS
  simp only [Int.natCast_zero] at this
  simp only [bne_self_eq_false, cond_false, this, Option.bind_some]

end Go.Proofs


namespace Go.Proofs
open Go.Ide Go.IntWalk

theorem RecoverJournal_law (a : List UInt8) (_ : WfD .str a) : laws_FnExactRecoverJournal a = some true := by
  unfold laws_FnExactRecoverJournal
  by_cases h : a.length ≤ 1048576
  · have e0 : decide (lenI a > 1048576) = false := by simp only [lenI, decide_eq_false_iff_not]; omega
    have key : ∃ r, spec_RecoverJournal a = some r ∧ impl_RecoverJournal a = some r ∧ r.1.length ≤ 1048577 := by
      unfold spec_RecoverJournal impl_RecoverJournal
      by_cases h2 : lenI a ≤ 16000
      · obtain ⟨r, h3, h4, h5⟩ := recover_both h
        rw [show decide (lenI a > 16000) = false by simp only [decide_eq_false_iff_not]; omega, cond_false, cond_false, h3, h4]
        exact ⟨_, rfl, rfl, h5⟩
      · rw [show decide (lenI a > 16000) = true by simp only [decide_eq_true_eq]; omega]
        exact ⟨_, rfl, rfl, by simp⟩
    obtain ⟨r, h1, h2, h3⟩ := key
    rw [e0, cond_false, h1, h2]
    obtain ⟨r1, r2, r3⟩ := r
    have h3 : r1.length ≤ 1048577 := h3
    have hm : (markRows markE 1 r1).1 = 1 + (r1.length : Int) := markE_le _ _
    simp only [Option.bind_some, eqS_ok (xs := r1) (by omega), Bool.not_true, cond_false, bne_self_eq_false, markS_ok (xs := r1) (by omega), heldS_ok (xs := r1) (by omega), hm]
    rw [show decide ((1 : Int) + (r1.length : Int) < 0) = false by simp only [decide_eq_false_iff_not]; omega]
    rfl
  · have e0 : decide (lenI a > 1048576) = true := by simp only [lenI, decide_eq_true_eq]; omega
    rw [e0, cond_true]

end Go.Proofs
