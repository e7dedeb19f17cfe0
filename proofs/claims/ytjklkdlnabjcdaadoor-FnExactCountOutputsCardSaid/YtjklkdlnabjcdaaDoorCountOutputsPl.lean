import Derived.Test.YtjklkdlnabjcdaaDoorCountOutputsGenA
import Derived.Lib.SplitLaws
set_option linter.unusedVariables false
set_option linter.unusedSimpArgs false
set_option linter.unusedSectionVars false

namespace Go.Proofs
open Go.Ide Go.IntWalk


end Go.Proofs


namespace Go.Proofs
open Go.Ide Go.IntWalk

def ahd (p : List UInt8) : List (List UInt8) → List (List UInt8)
  | [] => [p]
  | h :: t => (p ++ h) :: t

def pcs (c : UInt8) : List UInt8 → List (List UInt8)
  | [] => [[]]
  | b :: l => if b = c then [] :: pcs c l else ahd [b] (pcs c l)

theorem ahd_ne (p : List UInt8) (l : List (List UInt8)) : ahd p l ≠ [] := by cases l <;> simp [ahd]

theorem pcs_ne (c : UInt8) (s : List UInt8) : pcs c s ≠ [] := by
  cases s with
  | nil => simp [pcs]
  | cons b l =>
    unfold pcs
    split
    · simp
    · exact ahd_ne _ _

theorem ahd_length {p : List UInt8} {l : List (List UInt8)} (h : l ≠ []) : (ahd p l).length = l.length := by
  cases l with
  | nil => exact absurd rfl h
  | cons => rfl

theorem pcs_length (c : UInt8) : ∀ s : List UInt8, (pcs c s).length = s.count c + 1
  | [] => rfl
  | b :: l => by
    unfold pcs
    split
    · rename_i e
      subst e
      simp [pcs_length b l]
    · rename_i e
      rw [ahd_length (pcs_ne _ _), pcs_length c l, List.count_cons_of_ne (by simpa using e)]

theorem ahd_ahd {p q : List UInt8} {l : List (List UInt8)} (h : l ≠ []) : ahd p (ahd q l) = ahd (p ++ q) l := by
  cases l with
  | nil => exact absurd rfl h
  | cons => simp [ahd]

theorem ahd_nil {l : List (List UInt8)} (h : l ≠ []) : ahd [] l = l := by
  cases l with
  | nil => exact absurd rfl h
  | cons => rfl

theorem split_pcs (c : UInt8) : ∀ s : List UInt8, Lib.split s [c] = pcs c s
  | [] => by
    have e : Lib.index [] [c] = -1 := by simp [Lib.index]
    unfold Lib.split
    rw [Lib.count_miss e]
    rfl
  | b :: l => by
    have ih := split_pcs c l
    unfold Lib.split at ih ⊢
    unfold pcs
    by_cases e : b = c
    · subst e
      rw [if_pos rfl, Lib.count_cons_eq, Nat.add_comm, Lib.splitK, ← ih]
      have hix : Lib.index (b :: l) [b] = ((0 : Nat) : Int) := by rw [Lib.index]; simp [List.isPrefixOf]
      rw [hix]
      simp
    · rw [if_neg e, Lib.count_cons_ne b c l e, ← ih]
      cases hk : Lib.count l [c] with
      | zero => simp [Lib.splitK, ahd]
      | succ k =>
        have hp : ([c] : List UInt8).isPrefixOf (b :: l) = false := by simp [List.isPrefixOf, Ne.symm e]
        have hix : Lib.index (b :: l) [c] = if Lib.index l [c] == -1 then -1 else Lib.index l [c] + 1 := by rw [Lib.index, hp]; simp
        have hne : Lib.index l [c] ≠ -1 := fun q => by rw [Lib.count_miss q] at hk; cases hk
        have hge := Lib.index_ge l [c]
        obtain ⟨j, hj⟩ : ∃ j : Nat, Lib.index l [c] = j := ⟨(Lib.index l [c]).toNat, by omega⟩
        have hne' : (((j : Nat) : Int) == -1) = false := by rw [beq_eq_false_iff_ne]; omega
        have hne2 : ((((j : Nat) : Int) + 1) == -1) = false := by rw [beq_eq_false_iff_ne]; omega
        unfold Lib.splitK
        rw [hix, hj]
        simp only [hne', hne2, Bool.false_eq_true, if_false]
        have e1 : (((j : Nat) : Int) + 1).toNat = j + 1 := by omega
        rw [e1, Int.toNat_natCast]
        simp [ahd]

end Go.Proofs


namespace Go.Proofs
open Go.Ide Go.IntWalk

theorem cutS_hit {a : List UInt8} {c : UInt8} {st i : Nat} {out : List (List UInt8)} (h : a.length ≤ 1048576) (hi : i ≤ a.length) (hs : st ≤ i) (ho : out.length ≤ i) (hb : i = a.length ∨ ∃ hi : i < a.length, a[i] = c) :
    spec_l01Cut_B1 a ((c.toNat : Nat) : Int) ((st : Int), (i : Int), out) = some (.inl (((i + 1 : Nat) : Int), ((i + 1 : Nat) : Int), out ++ [cut a st i])) := by
  have e0 : decide ((i : Int) ≤ lenI a) = true := by simp only [lenI, decide_eq_true_eq]; omega
  have e1 : (bif ((i : Int) == lenI a) then some true else guardP ((0 : Int) ≤ (i : Int) ∧ (i : Int) < lenI a) (some ((((List.getD a (Int.toNat (i : Int)) 0 : UInt8).toNat : Nat) : Int) == ((c.toNat : Nat) : Int)))) = some true := by
    rcases hb with e | ⟨hl, e⟩
    · subst e
      simp [lenI]
    · have q : ((i : Int) == lenI a) = false := by rw [beq_eq_false_iff_ne]; simp only [lenI]; omega
      rw [q, cond_false, guard_pos (show _ ∧ _ from ⟨by omega, by simp only [lenI]; omega⟩), Int.toNat_natCast, List.getD_eq_getElem?_getD, List.getElem?_eq_getElem hl]
      simp [e]
  have e2 : wadd .i64 (i : Int) 1 = ((i + 1 : Nat) : Int) := nextN (n := i + 1) (by omega) (by omega)
  unfold spec_l01Cut_B1
  simp only [e0, cond_true, e1, Option.bind_some, e2]
  rw [guard_pos (show _ ∧ _ ∧ _ from ⟨by omega, by omega, by simp only [lenI]; omega⟩), guard_pos (by simp only [List.length_cons, List.length_nil]; unfold appMax; omega)]
  rfl

theorem cutS_miss {a : List UInt8} {c : UInt8} {st i : Nat} {out : List (List UInt8)} (h : a.length ≤ 1048576) (hi : i < a.length) (hb : a[i] ≠ c) :
    spec_l01Cut_B1 a ((c.toNat : Nat) : Int) ((st : Int), (i : Int), out) = some (.inl ((st : Int), ((i + 1 : Nat) : Int), out)) := by
  have e0 : decide ((i : Int) ≤ lenI a) = true := by simp only [lenI, decide_eq_true_eq]; omega
  have e1 : (bif ((i : Int) == lenI a) then some true else guardP ((0 : Int) ≤ (i : Int) ∧ (i : Int) < lenI a) (some ((((List.getD a (Int.toNat (i : Int)) 0 : UInt8).toNat : Nat) : Int) == ((c.toNat : Nat) : Int)))) = some false := by
    have q : ((i : Int) == lenI a) = false := by rw [beq_eq_false_iff_ne]; simp only [lenI]; omega
    rw [q, cond_false, guard_pos (show _ ∧ _ from ⟨by omega, by simp only [lenI]; omega⟩), Int.toNat_natCast, List.getD_eq_getElem?_getD, List.getElem?_eq_getElem hi]
    have : ((((a[i] : UInt8).toNat : Nat) : Int) == ((c.toNat : Nat) : Int)) = false := by
      rw [beq_eq_false_iff_ne]
      intro e
      exact hb (UInt8.toNat_inj.1 (Int.ofNat.inj e))
    simp [this]
  have e2 : wadd .i64 (i : Int) 1 = ((i + 1 : Nat) : Int) := nextN (n := i + 1) (by omega) (by omega)
  unfold spec_l01Cut_B1
  simp only [e0, cond_true, e1, Option.bind_some, e2, cond_false]

theorem cutS_end {a : List UInt8} {c : Int} {st : Int} {out : List (List UInt8)} (h : a.length ≤ 1048576) :
    spec_l01Cut_B1 a c (st, ((a.length + 1 : Nat) : Int), out) = some (.inr out) := by
  have e0 : decide ((((a.length + 1 : Nat)) : Int) ≤ lenI a) = false := by simp only [lenI, decide_eq_false_iff_not]; omega
  unfold spec_l01Cut_B1
  simp only [e0, cond_false]

theorem cut_self {a : List UInt8} {i : Nat} : cut a (i : Int) (i : Int) = [] := by
  simp [cut]

theorem cut_snoc {a : List UInt8} {st i : Nat} (hs : st ≤ i) (hi : i < a.length) : cut a (st : Int) ((i + 1 : Nat) : Int) = cut a (st : Int) (i : Int) ++ [a[i]] := by
  unfold cut
  rw [Int.toNat_natCast, Int.toNat_natCast, Int.toNat_natCast, show i + 1 - st = (i - st) + 1 by omega, List.take_add_one]
  congr 1
  rw [List.getElem?_drop, show st + (i - st) = i by omega, List.getElem?_eq_getElem hi]
  rfl

theorem cut_ok {a : List UInt8} (c : UInt8) (h : a.length ≤ 1048576) : spec_l01Cut a ((c.toNat : Nat) : Int) = some (pcs c a) := by
  obtain ⟨r, h1, h2⟩ : ∃ r, rounds (spec_l01Cut_B1 a ((c.toNat : Nat) : Int)) ((0 : Int), (0 : Int), ([] : List (List UInt8))) = some r ∧ r = pcs c a := by
    refine rounds_inv (fun n s => (∃ (st i : Nat) (out : List (List UInt8)), s = ((st : Int), (i : Int), out) ∧ st ≤ i ∧ i ≤ a.length ∧ n = a.length + 1 - i ∧ out.length ≤ i ∧ out ++ ahd (cut a st i) (pcs c (a.drop i)) = pcs c a) ∨
      ∃ st : Int, n = 0 ∧ s = (st, ((a.length + 1 : Nat) : Int), pcs c a)) (fun r => r = pcs c a) (fun n s hR => ?_) (a.length + 1) _ (.inl ⟨0, 0, [], rfl, Nat.le_refl _, Nat.zero_le _, rfl, Nat.zero_le _, ?_⟩)
    · rcases hR with ⟨st, i, out, rfl, k1, k2, k3, k4, k5⟩ | ⟨st, k0, rfl⟩
      · left
        by_cases hl : i = a.length
        · refine ⟨0, _, by omega, cutS_hit h k2 k1 k4 (.inl hl), .inr ⟨((i + 1 : Nat) : Int), rfl, ?_⟩⟩
          subst hl
          rw [List.drop_length] at k5
          rw [← k5]
          simp [pcs, ahd]
        · have hlt : i < a.length := by omega
          have hd : a.drop i = a[i] :: a.drop (i + 1) := List.drop_eq_getElem_cons hlt
          rw [hd] at k5
          by_cases e : a[i] = c
          · refine ⟨a.length + 1 - (i + 1), _, by omega, cutS_hit h k2 k1 k4 (.inr ⟨hlt, e⟩), .inl ⟨i + 1, i + 1, _, rfl, Nat.le_refl _, hlt, rfl, by simp; omega, ?_⟩⟩
            rw [cut_self, ahd_nil (pcs_ne _ _), ← k5]
            simp [pcs, e, ahd]
          · refine ⟨a.length + 1 - (i + 1), _, by omega, cutS_miss h hlt e, .inl ⟨st, i + 1, _, rfl, by omega, hlt, rfl, by omega, ?_⟩⟩
            rw [cut_snoc k1 hlt, ← ahd_ahd (pcs_ne _ _), ← k5]
            simp [pcs, e]
      · exact .inr ⟨_, cutS_end h, rfl⟩
    · have : cut a ((0 : Nat) : Int) ((0 : Nat) : Int) = [] := cut_self
      rw [this, List.drop_zero, ahd_nil (pcs_ne _ _)]
      rfl
  unfold spec_l01Cut
  rw [h1, h2]
  rfl

end Go.Proofs


namespace Go.Proofs
open Go.Ide Go.IntWalk

theorem guard_no {β : Type} {p : Prop} [Decidable p] {k : Option β} (h : ¬ p) : guardP p k = none := if_neg h

theorem pcs_pos (c : UInt8) (a : List UInt8) : 1 ≤ (pcs c a).length := by
  rw [pcs_length]; omega

theorem pcs_le (c : UInt8) (a : List UInt8) : (pcs c a).length ≤ a.length + 1 := by
  rw [pcs_length]
  have := List.count_le_length (a := c) (l := a)
  omega

theorem lastI {l : List (List UInt8)} (h : 1 ≤ l.length) (h2 : l.length ≤ 1048577) : wsub .i64 (lenI l) 1 = ((l.length - 1 : Nat) : Int) := by
  rw [wsubI (by simp only [lenI]; omega)]
  simp only [lenI]
  omega

def linesA (a : List UInt8) : List (List UInt8) := (pcs 10 a).take ((pcs 10 a).length - 1)
def restA (a : List UInt8) : List UInt8 := (pcs 10 a).getD ((pcs 10 a).length - 1) []

theorem spec_lines {a : List UInt8} (h : a.length ≤ 1048576) : spec_l08Lines a = some (linesA a, restA a) := by
  have h1 := pcs_pos 10 a
  have h2 := pcs_le 10 a
  unfold spec_l08Lines
  rw [show (10 : Int) = (((10 : UInt8).toNat : Nat) : Int) from rfl, cut_ok 10 h, Option.bind_some, lastI h1 (by omega)]
  rw [guard_pos (show _ ∧ _ from ⟨by omega, by simp only [lenI]; omega⟩), guard_pos (show _ ∧ _ from ⟨by omega, by simp only [lenI]; omega⟩), Int.toNat_natCast, List.drop_zero]
  rfl

theorem impl_lines {a : List UInt8} (h : a.length ≤ 1048576) : impl_linesOf a = some (linesA a, decide (lenI a ≤ 16000) && (restA a == [])) := by
  have h1 := pcs_pos 10 a
  have h2 := pcs_le 10 a
  have hs : strings_Split a [10] = some (pcs 10 a) := by
    unfold strings_Split
    rw [guard_pos (show _ ∧ _ from ⟨by omega, by simp⟩), split_pcs]
  unfold impl_linesOf
  rw [hs, Option.bind_some]
  simp only [lastI h1 (show (pcs 10 a).length ≤ 1048577 by omega)]
  rw [guard_pos (show _ ∧ _ from ⟨by omega, by simp only [lenI]; omega⟩), guard_pos (show _ ∧ _ from ⟨by omega, by simp only [lenI]; omega⟩), Int.toNat_natCast]
  cases decide (lenI a ≤ 16000) <;> rfl

theorem count_step (L : List (List UInt8)) (e : List UInt8) (b : Bool) (s : Int × Int) : spec_CountOutputs_B1 (L, e) s = impl_CountOutputs_B1 (L, b) s := by
  unfold spec_CountOutputs_B1 impl_CountOutputs_B1
  cases decide (s.2 < lenI L) with
  | false => rfl
  | true =>
    simp only [cond_true]
    by_cases hg : (0 : Int) ≤ s.2 ∧ s.2 < lenI L
    · rw [guard_pos hg, guard_pos hg]
    · rw [guard_no hg, guard_no hg]; rfl

theorem count_some (L : List (List UInt8)) (b : Bool) (h : L.length ≤ 1048576) : ∃ r, rounds (impl_CountOutputs_B1 (L, b)) ((0 : Int), (0 : Int)) = some r := by
  have := rounds_forS (f := impl_CountOutputs_B1 (L, b)) (fun i n => (n, ((i : Nat) : Int))) (fun i n => bif (List.getD L i [] == ([110, 111] : List UInt8)) || (List.getD L i [] == ([119, 104, 97, 116] : List UInt8)) then wadd .i64 n 1 else n) id (n := L.length) (fun _ _ => True) (fun i n hi _ => ⟨by
    unfold impl_CountOutputs_B1
    simp only [ltN hi, lenI, cond_true, guard_pos (idxN hi), Int.toNat_natCast, nextN hi (show L.length ≤ 4294967296 by omega)]
    cases (List.getD L i [] == ([110, 111] : List UInt8)) <;> cases (List.getD L i [] == ([119, 104, 97, 116] : List UInt8)) <;> rfl, trivial⟩) (fun n _ => by
    unfold impl_CountOutputs_B1
    simp only [lenI, geN (Nat.le_refl _), cond_false]; rfl) L.length 0 0 (by omega) trivial
  exact ⟨_, this.1⟩

theorem CountOutputs_law (a : List UInt8) (_ : WfD .str a) : laws_FnExactCountOutputs a = some true := by
  unfold laws_FnExactCountOutputs
  by_cases h : a.length ≤ 1048576
  · have e0 : decide (lenI a > 1048576) = false := by simp only [lenI, decide_eq_false_iff_not]; omega
    have hl : (linesA a).length ≤ 1048576 := by
      have := pcs_le 10 a
      unfold linesA
      rw [List.length_take]
      omega
    have key : ∃ r, spec_CountOutputs a = some r ∧ impl_CountOutputs a = some r := by
      unfold spec_CountOutputs impl_CountOutputs
      rw [impl_lines h, Option.bind_some]
      by_cases h2 : lenI a ≤ 16000
      · rw [show decide (lenI a > 16000) = false by simp only [decide_eq_false_iff_not]; omega, cond_false, spec_lines h, Option.bind_some, show decide (lenI a ≤ 16000) = true by simpa using h2]
        by_cases h3 : restA a = []
        · obtain ⟨r, hr⟩ := count_some (linesA a) true hl
          simp only [h3, bne_self_eq_false, cond_false, BEq.rfl, Bool.and_self, Bool.not_true]
          rw [funext (count_step (linesA a) [] true), hr]
          exact ⟨_, rfl, rfl⟩
        · have e3 : (restA a != []) = true := by simpa using h3
          have e4 : (restA a == []) = false := by simpa using h3
          simp only [e3, e4, cond_true, Bool.and_false, Bool.not_false]
          exact ⟨_, rfl, rfl⟩
      · rw [show decide (lenI a > 16000) = true by simp only [decide_eq_true_eq]; omega, show decide (lenI a ≤ 16000) = false by simpa using h2]
        exact ⟨_, rfl, rfl⟩
    obtain ⟨r, h1, h2⟩ := key
    rw [e0, cond_false, h1, h2]
    obtain ⟨r1, r2, r3⟩ := r
    simp
  · have e0 : decide (lenI a > 1048576) = true := by simp only [lenI, decide_eq_true_eq]; omega
    rw [e0, cond_true]

end Go.Proofs
