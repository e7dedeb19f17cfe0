import Derived.Test.YtjklkdlnabjcdaaDoorReadGrammarGenA
import Derived.Lib.SplitLaws
import Derived.Lib.ItoaLen
import Derived.Lib.CutLaws
import Derived.Lib.ParseIntBTie
set_option linter.unusedVariables false
set_option linter.unusedSimpArgs false
set_option linter.unusedSectionVars false

namespace Go.Proofs
open Go.Ide Go.IntWalk

theorem eqRule_ok {x0 : Int} {x1 : Int} {x2 : Int} {x3 : Int}  : laws_eqRule (x0, x1, x2, x3) (x0, x1, x2, x3) = some true := by
  unfold laws_eqRule
  simp only [Option.bind_some, bne_self_eq_false, Bool.not_true, cond_false, decide_true]

theorem eqRuleS_ok {xs : List (Int × Int × Int × Int)} (h : xs.length ≤ 1048576) : laws_eqRuleS xs xs = some true := by
  unfold laws_eqRuleS
  have := loop_eq (f := laws_eqRuleS_B1 xs xs) (Sum.inl ()) xs.length (fun i hi => by
    unfold laws_eqRuleS_B1
    simp only [ltN hi, cond_true, guard_pos (idxN hi), Int.toNat_natCast, eqRule_ok, Option.bind_some, Bool.not_true, cond_false, nextN hi (by omega)]) (by
    unfold laws_eqRuleS_B1
    simp only [geN (Nat.le_refl _), cond_false])
  simp only [bne_self_eq_false, cond_false, this, Option.bind_some]

theorem markRuleS_ok {xs : List (Int × Int × Int × Int)} {k : Int} (h : xs.length ≤ 1048576) (hk : 0 ≤ k ∧ k ≤ 1000000000) : laws_markRuleS xs k = some (k + ((4 * xs.length : Nat) : Int), marksG (fun k : Int => (k, k + 1, k + 1 + 1, k + 1 + 1 + 1)) 4 k xs.length) := by
  unfold laws_markRuleS
  have := loop_mark (f := laws_markRuleS_B1) (fun k : Int => (k, k + 1, k + 1 + 1, k + 1 + 1 + 1)) 4 k xs (fun i out hi hl => by
    unfold laws_markRuleS_B1
    have e0 : wadd .i64 (k + ((4 * i : Nat) : Int)) (1 : Int) = k + ((4 * i : Nat) : Int) + 1 := i64_in _ (by omega)
    have e1 : wadd .i64 (k + ((4 * i : Nat) : Int) + 1) (1 : Int) = k + ((4 * i : Nat) : Int) + 1 + 1 := i64_in _ (by omega)
    have e2 : wadd .i64 (k + ((4 * i : Nat) : Int) + 1 + 1) (1 : Int) = k + ((4 * i : Nat) : Int) + 1 + 1 + 1 := i64_in _ (by omega)
    have e3 : wadd .i64 (k + ((4 * i : Nat) : Int) + 1 + 1 + 1) (1 : Int) = k + ((4 * i : Nat) : Int) + 1 + 1 + 1 + 1 := i64_in _ (by omega)
    have e4 : k + ((4 * i : Nat) : Int) + 1 + 1 + 1 + 1 = k + ((4 * (i + 1) : Nat) : Int) := by omega
    have hi' : i < out.length := by omega
    simp only [lenI, List.length_set, hl, ltN hi, cond_true, guard_pos (idxN hi), Int.toNat_natCast, nextN hi (by omega), Option.bind_some, e0, e1, e2, e3, getD_set_self hi', List.set_set]
    rw [e4]) (fun out hl => by
    unfold laws_markRuleS_B1
    simp only [lenI, hl, geN (Nat.le_refl _), cond_false])
  simp only [this, Option.bind_some]
  rw [guard_pos marksG_len]

theorem heldRuleS_ok {n : Nat} {k : Int} (h : n ≤ 1048576) (hk : 0 ≤ k ∧ k ≤ 1000000000) : laws_heldRuleS (marksG (fun k : Int => (k, k + 1, k + 1 + 1, k + 1 + 1 + 1)) 4 k n) k = some (k + ((4 * n : Nat) : Int)) := by
  unfold laws_heldRuleS
  have := loop_held (f := laws_heldRuleS_B1 (marksG (fun k : Int => (k, k + 1, k + 1 + 1, k + 1 + 1 + 1)) 4 k n)) 4 k n (fun i hi => by
    unfold laws_heldRuleS_B1
    have e0 : wadd .i64 (k + ((4 * i : Nat) : Int)) (1 : Int) = k + ((4 * i : Nat) : Int) + 1 := i64_in _ (by omega)
    have e1 : wadd .i64 (k + ((4 * i : Nat) : Int) + 1) (1 : Int) = k + ((4 * i : Nat) : Int) + 1 + 1 := i64_in _ (by omega)
    have e2 : wadd .i64 (k + ((4 * i : Nat) : Int) + 1 + 1) (1 : Int) = k + ((4 * i : Nat) : Int) + 1 + 1 + 1 := i64_in _ (by omega)
    have e3 : wadd .i64 (k + ((4 * i : Nat) : Int) + 1 + 1 + 1) (1 : Int) = k + ((4 * i : Nat) : Int) + 1 + 1 + 1 + 1 := i64_in _ (by omega)
    have e4 : k + ((4 * i : Nat) : Int) + 1 + 1 + 1 + 1 = k + ((4 * (i + 1) : Nat) : Int) := by omega
    simp only [lenI, marksG_len, ltN hi, cond_true, guard_pos (idxN hi), Int.toNat_natCast, nextN hi (by omega), marksG_get hi, e0, e1, e2, e3, feq_ofint, Bool.not_true, bne_self_eq_false, cond_false]
    rw [e4]) (by
    unfold laws_heldRuleS_B1
    simp only [lenI, marksG_len, geN (Nat.le_refl _), cond_false])
  simp only [this, Option.bind_some]

theorem eqGrammar_ok {x0 : Int} {x1 : Int} {x2 : List (Int × Int × Int × Int)} (hx2 : x2.length ≤ 1048576) : laws_eqGrammar (x0, x1, x2) (x0, x1, x2) = some true := by
  unfold laws_eqGrammar
  simp only [eqRuleS_ok hx2, Option.bind_some, bne_self_eq_false, Bool.not_true, cond_false, decide_true]

theorem markGrammar_ok {x0 : Int} {x1 : Int} {x2 : List (Int × Int × Int × Int)} {k : Int} (hx2 : x2.length ≤ 1048576) (hk : 0 ≤ k ∧ k ≤ 700000000) : laws_markGrammar (x0, x1, x2) k = some (k + ((4 * x2.length : Nat) : Int), (x0, x1, marksG (fun k : Int => (k, k + 1, k + 1 + 1, k + 1 + 1 + 1)) 4 (k) x2.length)) := by
  unfold laws_markGrammar
  simp only [markRuleS_ok (k := k) hx2 (by omega), Option.bind_some]
  simp only [guardP, marksG_len, if_true]

theorem heldGrammar_ok {x0 : Int} {x1 : Int} {x2 : List (Int × Int × Int × Int)} {k : Int} (hx2 : x2.length ≤ 1048576) (hk : 0 ≤ k ∧ k ≤ 700000000) : laws_heldGrammar (x0, x1, marksG (fun k : Int => (k, k + 1, k + 1 + 1, k + 1 + 1 + 1)) 4 (k) x2.length) k = some (k + ((4 * x2.length : Nat) : Int)) := by
  unfold laws_heldGrammar
  simp only [heldRuleS_ok (k := k) hx2 (by omega), Option.bind_some, (show decide (k + ((4 * x2.length : Nat) : Int) < 0) = false from by simp only [decide_eq_false_iff_not]; omega), cond_false]

end Go.Proofs


namespace Go.Proofs
open Go.Ide Go.IntWalk

theorem in64 (a b c : Int) : spec_l00In a b c = some (decide (a ≥ b) && decide (a ≤ c)) := by
  unfold spec_l00In
  cases h : decide (a ≥ b) <;> simp
theorem within64 (a b c : Int) : impl_within a b c = some (decide (a ≥ b) && decide (a ≤ c)) := by
  unfold impl_within
  cases h : decide (a ≥ b) <;> simp

structure Plain (m c : Nat) (nx : List Int) (es : List Bool) : Prop where
  m1 : 1 ≤ m
  m2 : m ≤ 64
  c1 : 1 ≤ c
  c2 : c ≤ 4
  len : nx.length = m * c
  ends : es.length = m
  tos : ∀ i, i < m * c → ∃ t : Nat, nx.getD i 0 = (t : Int) ∧ t < m

section
variable {m c : Nat} {nx : List Int} {es : List Bool} (hp : Plain m c nx es)
include hp

end

end Go.Proofs


namespace Go.Proofs
open Go.Ide Go.IntWalk

def ahd (p : List UInt8) : List (List UInt8) → List (List UInt8)
  | [] => [p]
  | h :: t => (p ++ h) :: t

def pcs (c : UInt8) : List UInt8 → List (List UInt8)
  | [] => [[]]
  | b :: l => if b = c then [] :: pcs c l else ahd [b] (pcs c l)

theorem ahd_ne (p : List UInt8) (l : List (List UInt8)) : ahd p l ≠ [] := by cases l <;> simp [ahd]

theorem pcs_ne (c : UInt8) (s : List UInt8) : pcs c s ≠ [] := by
  cases s with
  | nil => simp [pcs]
  | cons b l =>
    unfold pcs
    split
    · simp
    · exact ahd_ne _ _

theorem ahd_length {p : List UInt8} {l : List (List UInt8)} (h : l ≠ []) : (ahd p l).length = l.length := by
  cases l with
  | nil => exact absurd rfl h
  | cons => rfl

theorem pcs_length (c : UInt8) : ∀ s : List UInt8, (pcs c s).length = s.count c + 1
  | [] => rfl
  | b :: l => by
    unfold pcs
    split
    · rename_i e
      subst e
      simp [pcs_length b l]
    · rename_i e
      rw [ahd_length (pcs_ne _ _), pcs_length c l, List.count_cons_of_ne (by simpa using e)]

theorem ahd_ahd {p q : List UInt8} {l : List (List UInt8)} (h : l ≠ []) : ahd p (ahd q l) = ahd (p ++ q) l := by
  cases l with
  | nil => exact absurd rfl h
  | cons => simp [ahd]

theorem ahd_nil {l : List (List UInt8)} (h : l ≠ []) : ahd [] l = l := by
  cases l with
  | nil => exact absurd rfl h
  | cons => rfl

theorem split_pcs (c : UInt8) : ∀ s : List UInt8, Lib.split s [c] = pcs c s
  | [] => by
    have e : Lib.index [] [c] = -1 := by simp [Lib.index]
    unfold Lib.split
    rw [Lib.count_miss e]
    rfl
  | b :: l => by
    have ih := split_pcs c l
    unfold Lib.split at ih ⊢
    unfold pcs
    by_cases e : b = c
    · subst e
      rw [if_pos rfl, Lib.count_cons_eq, Nat.add_comm, Lib.splitK, ← ih]
      have hix : Lib.index (b :: l) [b] = ((0 : Nat) : Int) := by rw [Lib.index]; simp [List.isPrefixOf]
      rw [hix]
      simp
    · rw [if_neg e, Lib.count_cons_ne b c l e, ← ih]
      cases hk : Lib.count l [c] with
      | zero => simp [Lib.splitK, ahd]
      | succ k =>
        have hp : ([c] : List UInt8).isPrefixOf (b :: l) = false := by simp [List.isPrefixOf, Ne.symm e]
        have hix : Lib.index (b :: l) [c] = if Lib.index l [c] == -1 then -1 else Lib.index l [c] + 1 := by rw [Lib.index, hp]; simp
        have hne : Lib.index l [c] ≠ -1 := fun q => by rw [Lib.count_miss q] at hk; cases hk
        have hge := Lib.index_ge l [c]
        obtain ⟨j, hj⟩ : ∃ j : Nat, Lib.index l [c] = j := ⟨(Lib.index l [c]).toNat, by omega⟩
        have hne' : (((j : Nat) : Int) == -1) = false := by rw [beq_eq_false_iff_ne]; omega
        have hne2 : ((((j : Nat) : Int) + 1) == -1) = false := by rw [beq_eq_false_iff_ne]; omega
        unfold Lib.splitK
        rw [hix, hj]
        simp only [hne', hne2, Bool.false_eq_true, if_false]
        have e1 : (((j : Nat) : Int) + 1).toNat = j + 1 := by omega
        rw [e1, Int.toNat_natCast]
        simp [ahd]

end Go.Proofs


namespace Go.Proofs
open Go.Ide Go.IntWalk

theorem cutS_hit {a : List UInt8} {c : UInt8} {st i : Nat} {out : List (List UInt8)} (h : a.length ≤ 1048576) (hi : i ≤ a.length) (hs : st ≤ i) (ho : out.length ≤ i) (hb : i = a.length ∨ ∃ hi : i < a.length, a[i] = c) :
    spec_l01Cut_B1 a ((c.toNat : Nat) : Int) ((st : Int), (i : Int), out) = some (.inl (((i + 1 : Nat) : Int), ((i + 1 : Nat) : Int), out ++ [cut a st i])) := by
  have e0 : decide ((i : Int) ≤ lenI a) = true := by simp only [lenI, decide_eq_true_eq]; omega
  have e1 : (bif ((i : Int) == lenI a) then some true else guardP ((0 : Int) ≤ (i : Int) ∧ (i : Int) < lenI a) (some ((((List.getD a (Int.toNat (i : Int)) 0 : UInt8).toNat : Nat) : Int) == ((c.toNat : Nat) : Int)))) = some true := by
    rcases hb with e | ⟨hl, e⟩
    · subst e
      simp [lenI]
    · have q : ((i : Int) == lenI a) = false := by rw [beq_eq_false_iff_ne]; simp only [lenI]; omega
      rw [q, cond_false, guard_pos (show _ ∧ _ from ⟨by omega, by simp only [lenI]; omega⟩), Int.toNat_natCast, List.getD_eq_getElem?_getD, List.getElem?_eq_getElem hl]
      simp [e]
  have e2 : wadd .i64 (i : Int) 1 = ((i + 1 : Nat) : Int) := nextN (n := i + 1) (by omega) (by omega)
  unfold spec_l01Cut_B1
  simp only [e0, cond_true, e1, Option.bind_some, e2]
  rw [guard_pos (show _ ∧ _ ∧ _ from ⟨by omega, by omega, by simp only [lenI]; omega⟩), guard_pos (by simp only [List.length_cons, List.length_nil]; unfold appMax; omega)]
  rfl

theorem cutS_miss {a : List UInt8} {c : UInt8} {st i : Nat} {out : List (List UInt8)} (h : a.length ≤ 1048576) (hi : i < a.length) (hb : a[i] ≠ c) :
    spec_l01Cut_B1 a ((c.toNat : Nat) : Int) ((st : Int), (i : Int), out) = some (.inl ((st : Int), ((i + 1 : Nat) : Int), out)) := by
  have e0 : decide ((i : Int) ≤ lenI a) = true := by simp only [lenI, decide_eq_true_eq]; omega
  have e1 : (bif ((i : Int) == lenI a) then some true else guardP ((0 : Int) ≤ (i : Int) ∧ (i : Int) < lenI a) (some ((((List.getD a (Int.toNat (i : Int)) 0 : UInt8).toNat : Nat) : Int) == ((c.toNat : Nat) : Int)))) = some false := by
    have q : ((i : Int) == lenI a) = false := by rw [beq_eq_false_iff_ne]; simp only [lenI]; omega
    rw [q, cond_false, guard_pos (show _ ∧ _ from ⟨by omega, by simp only [lenI]; omega⟩), Int.toNat_natCast, List.getD_eq_getElem?_getD, List.getElem?_eq_getElem hi]
    have : ((((a[i] : UInt8).toNat : Nat) : Int) == ((c.toNat : Nat) : Int)) = false := by
      rw [beq_eq_false_iff_ne]
      intro e
      exact hb (UInt8.toNat_inj.1 (Int.ofNat.inj e))
    simp [this]
  have e2 : wadd .i64 (i : Int) 1 = ((i + 1 : Nat) : Int) := nextN (n := i + 1) (by omega) (by omega)
  unfold spec_l01Cut_B1
  simp only [e0, cond_true, e1, Option.bind_some, e2, cond_false]

theorem cutS_end {a : List UInt8} {c : Int} {st : Int} {out : List (List UInt8)} (h : a.length ≤ 1048576) :
    spec_l01Cut_B1 a c (st, ((a.length + 1 : Nat) : Int), out) = some (.inr out) := by
  have e0 : decide ((((a.length + 1 : Nat)) : Int) ≤ lenI a) = false := by simp only [lenI, decide_eq_false_iff_not]; omega
  unfold spec_l01Cut_B1
  simp only [e0, cond_false]

theorem cut_self {a : List UInt8} {i : Nat} : cut a (i : Int) (i : Int) = [] := by
  simp [cut]

theorem cut_snoc {a : List UInt8} {st i : Nat} (hs : st ≤ i) (hi : i < a.length) : cut a (st : Int) ((i + 1 : Nat) : Int) = cut a (st : Int) (i : Int) ++ [a[i]] := by
  unfold cut
  rw [Int.toNat_natCast, Int.toNat_natCast, Int.toNat_natCast, show i + 1 - st = (i - st) + 1 by omega, List.take_add_one]
  congr 1
  rw [List.getElem?_drop, show st + (i - st) = i by omega, List.getElem?_eq_getElem hi]
  rfl

theorem cut_ok {a : List UInt8} (c : UInt8) (h : a.length ≤ 1048576) : spec_l01Cut a ((c.toNat : Nat) : Int) = some (pcs c a) := by
  obtain ⟨r, h1, h2⟩ : ∃ r, rounds (spec_l01Cut_B1 a ((c.toNat : Nat) : Int)) ((0 : Int), (0 : Int), ([] : List (List UInt8))) = some r ∧ r = pcs c a := by
    refine rounds_inv (fun n s => (∃ (st i : Nat) (out : List (List UInt8)), s = ((st : Int), (i : Int), out) ∧ st ≤ i ∧ i ≤ a.length ∧ n = a.length + 1 - i ∧ out.length ≤ i ∧ out ++ ahd (cut a st i) (pcs c (a.drop i)) = pcs c a) ∨
      ∃ st : Int, n = 0 ∧ s = (st, ((a.length + 1 : Nat) : Int), pcs c a)) (fun r => r = pcs c a) (fun n s hR => ?_) (a.length + 1) _ (.inl ⟨0, 0, [], rfl, Nat.le_refl _, Nat.zero_le _, rfl, Nat.zero_le _, ?_⟩)
    · rcases hR with ⟨st, i, out, rfl, k1, k2, k3, k4, k5⟩ | ⟨st, k0, rfl⟩
      · left
        by_cases hl : i = a.length
        · refine ⟨0, _, by omega, cutS_hit h k2 k1 k4 (.inl hl), .inr ⟨((i + 1 : Nat) : Int), rfl, ?_⟩⟩
          subst hl
          rw [List.drop_length] at k5
          rw [← k5]
          simp [pcs, ahd]
        · have hlt : i < a.length := by omega
          have hd : a.drop i = a[i] :: a.drop (i + 1) := List.drop_eq_getElem_cons hlt
          rw [hd] at k5
          by_cases e : a[i] = c
          · refine ⟨a.length + 1 - (i + 1), _, by omega, cutS_hit h k2 k1 k4 (.inr ⟨hlt, e⟩), .inl ⟨i + 1, i + 1, _, rfl, Nat.le_refl _, hlt, rfl, by simp; omega, ?_⟩⟩
            rw [cut_self, ahd_nil (pcs_ne _ _), ← k5]
            simp [pcs, e, ahd]
          · refine ⟨a.length + 1 - (i + 1), _, by omega, cutS_miss h hlt e, .inl ⟨st, i + 1, _, rfl, by omega, hlt, rfl, by omega, ?_⟩⟩
            rw [cut_snoc k1 hlt, ← ahd_ahd (pcs_ne _ _), ← k5]
            simp [pcs, e]
      · exact .inr ⟨_, cutS_end h, rfl⟩
    · have : cut a ((0 : Nat) : Int) ((0 : Nat) : Int) = [] := cut_self
      rw [this, List.drop_zero, ahd_nil (pcs_ne _ _)]
      rfl
  unfold spec_l01Cut
  rw [h1, h2]
  rfl

end Go.Proofs


namespace Go.Proofs
open Go.Ide Go.IntWalk

theorem pcs_le (c : UInt8) (a : List UInt8) : (pcs c a).length ≤ a.length + 1 := by
  rw [pcs_length]
  have := List.count_le_length (a := c) (l := a)
  omega

end Go.Proofs


namespace Go.Proofs
open Go.Ide Go.IntWalk

def digI (u : Nat) : List Int := (Lib.decDigits u).map fun b => ((b.toNat : Nat) : Int)

theorem digI_small {u : Nat} (h : u < 10) : digI u = [((48 + u : Nat) : Int)] := by
  unfold digI
  rw [Lib.decDigits, dif_pos h, List.map_cons, List.map_nil, UInt8.toNat_ofNat', Nat.mod_eq_of_lt (by omega)]

theorem digI_big {u : Nat} (h : ¬ u < 10) : digI u = digI (u / 10) ++ [((48 + u % 10 : Nat) : Int)] := by
  unfold digI
  rw [Lib.decDigits, dif_neg h, List.map_append, List.map_cons, List.map_nil, UInt8.toNat_ofNat', Nat.mod_eq_of_lt (by omega)]

theorem bytesO_digI (u : Nat) : bytesO (digI u) = Lib.decDigits u := by
  unfold bytesO digI
  rw [List.map_map]
  conv => rhs; rw [← List.map_id (Lib.decDigits u)]
  apply List.map_congr_left
  intro b _
  simp

theorem dec_step {m : Int} {u : Nat} {ds : List Int} (h1 : m.natAbs = u) (h2 : u ≤ 9223372036854775808) (h3 : m ≤ 9223372036854775807) (h4 : ds = [] ∨ m ≠ 0) (h5 : ds.length ≤ 1000) :
    spec_l01Dec_B1 (m, ds) = some (.inl (Int.tdiv m 10, ((48 + u % 10 : Nat) : Int) :: ds)) := by
  have e0 : (bif (lenI ds == 0) then some true else some (m != 0)) = some true := by
    rcases h4 with rfl | h
    · rfl
    · have : (m != 0) = true := by simpa using h
      rw [this]; cases (lenI ds == 0) <;> rfl
  have e1 : (bif decide (Int.tmod m 10 < 0) then some (IntKind.wrap .i64 (0 - Int.tmod m 10)) else some (Int.tmod m 10)) = some ((u % 10 : Nat) : Int) := by
    rcases Int.natAbs_eq m with e | e
    · rw [e, h1]
      have : Int.tmod (u : Int) 10 = ((u % 10 : Nat) : Int) := rfl
      rw [this, show decide (((u % 10 : Nat) : Int) < 0) = false by simp only [decide_eq_false_iff_not]; omega, cond_false]
    · rw [e, h1]
      have : Int.tmod (-(u : Int)) 10 = -((u % 10 : Nat) : Int) := by rw [Int.neg_tmod]; rfl
      rw [this]
      by_cases hz : u % 10 = 0
      · rw [hz]; rfl
      · rw [show decide (-((u % 10 : Nat) : Int) < 0) = true by simp only [decide_eq_true_eq]; omega, cond_true, i64_in _ (by omega)]
        congr 1
        omega
  have e2 : IntKind.wrap .i64 (Int.tdiv m 10) = Int.tdiv m 10 := by
    apply i64_in
    rcases Int.natAbs_eq m with e | e
    · rw [e, h1]
      have : Int.tdiv (u : Int) 10 = ((u / 10 : Nat) : Int) := rfl
      rw [this]; omega
    · rw [e, h1]
      have : Int.tdiv (-(u : Int)) 10 = -((u / 10 : Nat) : Int) := by rw [Int.neg_tdiv]; rfl
      rw [this]; omega
  have e3 : IntKind.wrap .u8 (wadd .i64 48 ((u % 10 : Nat) : Int)) = ((48 + u % 10 : Nat) : Int) := by
    rw [waddI (by omega), u8_in _ (by omega)]; omega
  unfold spec_l01Dec_B1
  simp only [e0, Option.bind_some, cond_true, e1, e2, e3]
  rw [guard_pos (by simp only [List.length_cons, List.length_nil]; unfold appMax; omega)]
  rfl

theorem dec_end {ds : List Int} (h : ds ≠ []) : spec_l01Dec_B1 (0, ds) = some (.inr ds) := by
  have e : (lenI ds == 0) = false := by
    rw [beq_eq_false_iff_ne]
    have := List.length_pos_iff.2 h
    simp only [lenI]; omega
  unfold spec_l01Dec_B1
  simp only [e, cond_false, bne_self_eq_false, Option.bind_some]

theorem tdiv_abs (m : Int) : (Int.tdiv m 10).natAbs = m.natAbs / 10 := by
  rw [Int.natAbs_tdiv]; rfl

theorem dec_rounds : ∀ (u : Nat) (m : Int) (ds : List Int), m.natAbs = u → (ds = [] ∨ u ≠ 0) → u ≤ 9223372036854775808 → m ≤ 9223372036854775807 → ds.length + Lib.nDigits u ≤ 1000 →
    rounds (spec_l01Dec_B1) (m, ds) = some (digI u ++ ds) := by
  intro u
  induction u using Nat.strongRecOn with
  | _ u ih =>
    intro m ds h1 h2 h3 h4 h5
    rw [rounds_eq, dec_step h1 h3 h4 (h2.imp id fun h e => h (by rw [← h1, e]; rfl)) (by omega)]
    show rounds _ _ = _
    by_cases hu : u < 10
    · have e : Int.tdiv m 10 = 0 := by
        have := tdiv_abs m
        omega
      rw [e, rounds_eq, dec_end (by simp), digI_small hu, Nat.mod_eq_of_lt hu]
      rfl
    · have hn : Lib.nDigits u = Lib.nDigits (u / 10) + 1 := by rw [Lib.nDigits, dif_neg hu]
      rw [ih (u / 10) (by omega) _ _ (by rw [tdiv_abs, h1]) (.inr (by omega)) (by omega) (by
        have := tdiv_abs m
        omega) (by simp only [List.length_cons]; omega), digI_big hu]
      simp

theorem nDigits_le {n : Int} (h : -9223372036854775808 ≤ n ∧ n ≤ 9223372036854775807) : Lib.nDigits n.natAbs ≤ 21 := by
  have := Lib.itoa_length_le n h.1 h.2
  unfold Lib.itoa at this
  split at this
  · rw [List.length_cons, Lib.decDigits_length] at this
    omega
  · rw [Lib.decDigits_length, show n.toNat = n.natAbs by omega] at this
    exact this

theorem dec_ok {n : Int} (h : -9223372036854775808 ≤ n ∧ n ≤ 9223372036854775807) : spec_l01Dec n = some (Lib.itoa n) := by
  have hd := nDigits_le h
  unfold spec_l01Dec
  rw [dec_rounds n.natAbs n [] rfl (.inl rfl) (by omega) h.2 (by simp; omega), Option.bind_some, List.append_nil]
  unfold Lib.itoa
  by_cases hn : n < 0
  · rw [show decide (n < 0) = true by simpa using hn, cond_true, if_pos hn, guard_pos (by
      simp only [List.length_cons, List.length_nil]
      unfold digI appMax
      rw [List.length_map, Lib.decDigits_length]
      omega), Option.bind_some]
    show some (bytesO (45 :: digI n.natAbs)) = _
    rw [← bytesO_digI]
    rfl
  · rw [show decide (n < 0) = false by simpa using hn, cond_false, Option.bind_some, bytesO_digI, if_neg hn, show n.toNat = n.natAbs by omega]

end Go.Proofs


namespace Go.Proofs
open Go.Ide Go.IntWalk

end Go.Proofs


namespace Go.Proofs
open Go.Ide Go.IntWalk

def vstep (n : Int) (b : UInt8) : Int := if 48 ≤ b.toNat ∧ b.toNat ≤ 57 then 10 * n + ((b.toNat : Int) - 48) else n
def vfold (n : Int) (s : List UInt8) : Int := s.foldl vstep n

theorem vfold_lt : ∀ (s : List UInt8) (n : Int) (k : Nat), 0 ≤ n → n < ((10 ^ k : Nat) : Int) → 0 ≤ vfold n s ∧ vfold n s < ((10 ^ (k + s.length) : Nat) : Int)
  | [], n, k, h0, h1 => ⟨h0, h1⟩
  | b :: s, n, k, h0, h1 => by
    have e : k + (b :: s).length = (k + 1) + s.length := by simp only [List.length_cons]; omega
    rw [e]
    refine vfold_lt s (vstep n b) (k + 1) ?_ ?_
    · unfold vstep; split <;> omega
    · unfold vstep
      rw [Nat.pow_succ]
      split <;> omega

theorem vfold_app (n : Int) (a b : List UInt8) : vfold n (a ++ b) = vfold (vfold n a) b := by
  unfold vfold; rw [List.foldl_append]

theorem vfold_dec : ∀ u : Nat, vfold 0 (Lib.decDigits u) = (u : Int) := by
  intro u
  induction u using Nat.strongRecOn with
  | _ u ih =>
    by_cases hu : u < 10
    · rw [Lib.decDigits, dif_pos hu]
      have e : (UInt8.ofNat (48 + u)).toNat = 48 + u := by rw [UInt8.toNat_ofNat', Nat.mod_eq_of_lt (by omega)]
      show vstep 0 (UInt8.ofNat (48 + u)) = _
      unfold vstep
      rw [e, if_pos (by omega)]
      omega
    · rw [Lib.decDigits, dif_neg hu, vfold_app, ih (u / 10) (by omega)]
      have e : (UInt8.ofNat (48 + u % 10)).toNat = 48 + u % 10 := by rw [UInt8.toNat_ofNat', Nat.mod_eq_of_lt (by omega)]
      show vstep _ (UInt8.ofNat (48 + u % 10)) = _
      unfold vstep
      rw [e, if_pos (by omega)]
      omega

theorem dec_head : ∀ u : Nat, ∃ b r, Lib.decDigits u = b :: r ∧ 48 ≤ b.toNat ∧ b.toNat ≤ 57 := by
  intro u
  induction u using Nat.strongRecOn with
  | _ u ih =>
    by_cases hu : u < 10
    · have e : (UInt8.ofNat (48 + u)).toNat = 48 + u := by rw [UInt8.toNat_ofNat', Nat.mod_eq_of_lt (by omega)]
      refine ⟨UInt8.ofNat (48 + u), [], ?_, by omega, by omega⟩
      rw [Lib.decDigits, dif_pos hu]
    · obtain ⟨b, r, h1, h2⟩ := ih (u / 10) (by omega)
      refine ⟨b, r ++ [UInt8.ofNat (48 + u % 10)], ?_, h2⟩
      rw [Lib.decDigits, dif_neg hu, h1]
      rfl

theorem uintM_dec : ∀ (u : Nat) (rest : List UInt8), u < 1000000000000000000 → Lib.parseUintM 18446744073709551615 0 (Lib.decDigits u ++ rest) = Lib.parseUintM 18446744073709551615 u rest := by
  intro u
  induction u using Nat.strongRecOn with
  | _ u ih =>
    intro rest hlt
    by_cases hu : u < 10
    · have e : (UInt8.ofNat (48 + u)).toNat = 48 + u := by rw [UInt8.toNat_ofNat', Nat.mod_eq_of_lt (by omega)]
      rw [Lib.decDigits, dif_pos hu]
      show Lib.parseUintM 18446744073709551615 0 (UInt8.ofNat (48 + u) :: rest) = _
      conv => lhs; unfold Lib.parseUintM
      rw [e, if_pos (by omega), if_neg (by omega), if_neg (by omega)]
      congr 1
      omega
    · have e : (UInt8.ofNat (48 + u % 10)).toNat = 48 + u % 10 := by rw [UInt8.toNat_ofNat', Nat.mod_eq_of_lt (by omega)]
      rw [Lib.decDigits, dif_neg hu, List.append_assoc, ih (u / 10) (by omega) _ (by omega)]
      show Lib.parseUintM 18446744073709551615 (u / 10) (UInt8.ofNat (48 + u % 10) :: rest) = _
      conv => lhs; unfold Lib.parseUintM
      rw [e, if_pos (by omega), if_neg (by omega), if_neg (by omega)]
      congr 1
      omega

theorem uint_dec {u : Nat} (h : u < 1000000000000000000) : Lib.parseUintB 64 (Lib.decDigits u) = .ok u := by
  obtain ⟨b, r, h1, _⟩ := dec_head u
  have := uintM_dec u [] h
  rw [List.append_nil] at this
  unfold Lib.parseUintB
  rw [if_neg (by rw [h1]; simp), show (2 ^ 64 - 1 : Nat) = 18446744073709551615 from rfl, this]
  rfl

theorem parse_itoa {n : Int} (h : -1000000000000000 ≤ n ∧ n ≤ 1000000000000000) : Lib.parseIntB 64 (Lib.itoa n) = .ok n := by
  have hu := uint_dec (u := n.natAbs) (by omega)
  have hp : (2 ^ (64 - 1) : Nat) = 9223372036854775808 := rfl
  unfold Lib.itoa
  by_cases hn : n < 0
  · rw [if_pos hn]
    unfold Lib.parseIntB
    simp only [show (45 : UInt8).toNat = 45 from rfl, hu, hp]
    simp only [or_true, if_true, not_true_eq_false, false_and, if_false, true_and, hu]
    rw [if_neg (by omega)]
    congr 1
    omega
  · rw [if_neg hn, show n.toNat = n.natAbs by omega]
    obtain ⟨b, r, h1, h2, h3⟩ := dec_head n.natAbs
    rw [h1] at hu ⊢
    unfold Lib.parseIntB
    simp only [show ¬ b.toNat = 45 by omega, show ¬ b.toNat = 43 by omega, hu, hp]
    simp only [or_self, if_false, hu, not_false_eq_true, true_and, false_and]
    rw [if_neg (by omega)]
    congr 1
    omega

theorem rd_itoa {n : Int} (h : -1000000000000000 ≤ n ∧ n ≤ 1000000000000000) : rdDec (Lib.itoa n) = (n, true) := by
  unfold rdDec
  rw [parse_itoa h]
  simp [h]

theorem rd_none {s : List UInt8} (h : ∀ n : Int, -1000000000000000 ≤ n ∧ n ≤ 1000000000000000 → Lib.itoa n ≠ s) : rdDec s = (0, false) := by
  unfold rdDec
  split
  · rw [if_neg fun q => h _ q.1 q.2]
  · rfl

theorem val_rounds {s : List UInt8} (h : s.length ≤ 17) : rounds (spec_l01Value_B1 s) ((0 : Int), (0 : Int)) = some (vfold 0 s) := by
  have key : ∀ i, i ≤ s.length → 0 ≤ vfold 0 (s.take i) ∧ vfold 0 (s.take i) < 100000000000000000 := fun i hi => by
    have := vfold_lt (s.take i) 0 0 (Int.le_refl _) (by simp)
    rw [List.length_take, Nat.min_eq_left hi] at this
    have hp : 10 ^ (0 + i) ≤ 10 ^ 17 := Nat.pow_le_pow_right (by omega) (by omega)
    refine ⟨this.1, ?_⟩
    have h2 := this.2
    have hq : (10 ^ 17 : Nat) = 100000000000000000 := rfl
    omega
  have := rounds_forS (f := spec_l01Value_B1 s) (fun i n => (n, ((i : Nat) : Int))) (fun i n => vstep n (s.getD i 0)) id (n := s.length) (fun i n => n = vfold 0 (s.take i)) (fun i n hi hn => ⟨by
    have hk := key i (by omega)
    rw [← hn] at hk
    unfold spec_l01Value_B1
    simp only [show decide ((i : Int) < lenI s) = true from ltN hi, cond_true, guard_pos (idxN hi), Int.toNat_natCast]
    obtain ⟨b, hgb⟩ : ∃ b, s.getD i 0 = b := ⟨_, rfl⟩
    simp only [hgb]
    have hb := b.toNat_lt
    unfold vstep
    by_cases h0 : 48 ≤ b.toNat
    · by_cases h1 : b.toNat ≤ 57
      · have e1 : wsub .u8 ((b.toNat : Nat) : Int) 48 = (b.toNat : Int) - 48 := u8_in _ (by omega)
        rw [show decide (((b.toNat : Nat) : Int) ≥ 48) = true by simp only [decide_eq_true_eq]; omega, show decide (((b.toNat : Nat) : Int) ≤ 57) = true by simp only [decide_eq_true_eq]; omega, e1, i64_in _ (by omega), wmulI (by omega), waddI (by omega), if_pos ⟨h0, h1⟩]
        simp only [cond_true, Option.bind_some, nextN hi (show s.length ≤ 4294967296 by omega)]
      · rw [show decide (((b.toNat : Nat) : Int) ≥ 48) = true by simp only [decide_eq_true_eq]; omega, show decide (((b.toNat : Nat) : Int) ≤ 57) = false by simp only [decide_eq_false_iff_not]; omega, if_neg fun q => h1 q.2]
        simp only [cond_true, cond_false, Option.bind_some, nextN hi (show s.length ≤ 4294967296 by omega)]
    · rw [show decide (((b.toNat : Nat) : Int) ≥ 48) = false by simp only [decide_eq_false_iff_not]; omega, if_neg fun q => h0 q.1]
      simp only [cond_false, Option.bind_some, nextN hi (show s.length ≤ 4294967296 by omega)], by
    rw [hn, take_snoc hi 0, vfold_app]; rfl⟩) (fun n _ => by
    unfold spec_l01Value_B1
    simp only [show decide (((s.length : Nat) : Int) < lenI s) = false from geN (Nat.le_refl _), cond_false]; rfl) s.length 0 0 (by omega) (by simp [vfold])
  obtain ⟨h1, h2⟩ := this
  rw [List.take_length] at h2
  simp only [Int.natCast_zero, id, h2] at h1
  exact h1

theorem spec_value {s : List UInt8} (h : s.length ≤ 1048576) : spec_l01Value s = some (rdDec s) := by
  unfold spec_l01Value
  have hlen : ∀ n : Int, -1000000000000000 ≤ n ∧ n ≤ 1000000000000000 → 1 ≤ (Lib.itoa n).length ∧ (Lib.itoa n).length ≤ 17 := fun n hn => by
    have hd : ∀ u : Nat, u ≤ 1000000000000000 → 1 ≤ (Lib.decDigits u).length ∧ (Lib.decDigits u).length ≤ 16 := fun u hu => by
      obtain ⟨b, r, h1, _⟩ := dec_head u
      refine ⟨by rw [h1]; simp, ?_⟩
      have h16 : ∀ (k u : Nat), u < 10 ^ (k + 1) → Lib.nDigits u ≤ k + 1 := by
        intro k
        induction k with
        | zero => intro u hu; rw [Lib.nDigits, dif_pos (by simpa using hu)]; exact Nat.le_refl _
        | succ k ih =>
          intro u hu
          rw [Lib.nDigits]
          split
          · omega
          · have := ih (u / 10) (by rw [Nat.pow_succ] at hu; omega)
            omega
      rw [Lib.decDigits_length]
      exact h16 15 u (by have : (10 ^ (15 + 1) : Nat) = 10000000000000000 := rfl; omega)
    unfold Lib.itoa
    split
    · have := hd n.natAbs (by omega)
      simp only [List.length_cons]; omega
    · have := hd n.toNat (by omega)
      omega
  by_cases h1 : s.length < 1
  · rw [show decide (lenI s < 1) = true by simp only [lenI, decide_eq_true_eq]; omega, rd_none fun n hn he => by
      have := hlen n hn
      rw [he] at this; omega]
    rfl
  · rw [show decide (lenI s < 1) = false by simp only [lenI, decide_eq_false_iff_not]; omega, cond_false, Option.bind_some]
    by_cases h2 : s.length > 17
    · rw [show decide (lenI s > 17) = true by simp only [lenI, decide_eq_true_eq]; omega, rd_none fun n hn he => by
        have := hlen n hn
        rw [he] at this; omega]
      rfl
    · rw [show decide (lenI s > 17) = false by simp only [lenI, decide_eq_false_iff_not]; omega, cond_false, val_rounds (by omega), Option.bind_some]
      have hv := vfold_lt s 0 0 (Int.le_refl _) (by simp)
      have hp : 10 ^ (0 + s.length) ≤ 10 ^ 17 := Nat.pow_le_pow_right (by omega) (by omega)
      have hq : (10 ^ 17 : Nat) = 100000000000000000 := rfl
      obtain ⟨b, r, rfl⟩ : ∃ b r, s = b :: r := by
        cases s with
        | nil => simp at h1
        | cons b r => exact ⟨b, r, rfl⟩
      rw [guard_pos (show _ ∧ _ from ⟨Int.le_refl _, by simp only [lenI]; omega⟩)]
      generalize hV : vfold 0 (b :: r) = V at hv
      obtain ⟨v8, hv8, hv9⟩ : ∃ v8, (bif ((((List.getD (b :: r) (Int.toNat 0) 0 : UInt8).toNat : Nat) : Int) == 45) then some (IntKind.wrap .i64 (0 - V)) else some V) = some v8 ∧ v8 = if b.toNat = 45 then -V else V := by
        show ∃ v8, (bif (((b.toNat : Nat) : Int) == 45) then some (IntKind.wrap .i64 (0 - V)) else some V) = some v8 ∧ _
        by_cases hb : b.toNat = 45
        · rw [hb]
          exact ⟨_, rfl, by rw [if_pos rfl, i64_in _ (by omega)]; omega⟩
        · rw [show (((b.toNat : Nat) : Int) == 45) = false by rw [beq_eq_false_iff_ne]; omega]
          exact ⟨_, rfl, by rw [if_neg hb]⟩
      rw [hv8, Option.bind_some, in64, Option.bind_some]
      have hval : ∀ n : Int, Lib.itoa n = b :: r → v8 = n := fun n hn => by
        unfold Lib.itoa at hn
        by_cases hneg : n < 0
        · rw [if_pos hneg] at hn
          injection hn with e1 e2
          have hb : b.toNat = 45 := by rw [← e1]; rfl
          rw [hv9, if_pos hb, ← hV, ← e1, ← e2]
          show -(vfold (vstep 0 45) (Lib.decDigits n.natAbs)) = n
          rw [show vstep 0 45 = 0 from rfl, vfold_dec]
          omega
        · rw [if_neg hneg] at hn
          obtain ⟨b', r', e1, e2, e3⟩ := dec_head n.toNat
          rw [e1] at hn
          injection hn with e4 e5
          have hb : ¬ b.toNat = 45 := by rw [← e4]; omega
          rw [hv9, if_neg hb, ← hV, ← e4, ← e5, ← e1, vfold_dec]
          omega
      by_cases hr : -1000000000000000 ≤ v8 ∧ v8 ≤ 1000000000000000
      · rw [show (decide (v8 ≥ -1000000000000000) && decide (v8 ≤ 1000000000000000)) = true by simp only [Bool.and_eq_true, decide_eq_true_eq]; exact hr]
        simp only [Bool.not_true, cond_false, dec_ok (n := v8) (by omega), Option.bind_some]
        by_cases he : Lib.itoa v8 = b :: r
        · rw [show (Lib.itoa v8 != b :: r) = false by simpa using he, ← he, rd_itoa hr]
          rfl
        · rw [show (Lib.itoa v8 != b :: r) = true by simpa using he, rd_none fun n hn hq => he (by rw [hval n hq]; exact hq)]
          rfl
      · rw [show (decide (v8 ≥ -1000000000000000) && decide (v8 ≤ 1000000000000000)) = false by
          rw [Bool.eq_false_iff]; intro q; simp only [Bool.and_eq_true, decide_eq_true_eq] at q; exact hr q]
        simp only [Bool.not_false, cond_true, Option.bind_some]
        rw [rd_none fun n hn hq => hr (by rw [hval n hq]; exact hn)]

end Go.Proofs


namespace Go.Proofs
open Go.Ide Go.IntWalk

noncomputable def numsOk (ps : List (List UInt8)) : Bool := ps.all fun p => (rdDec p).2
noncomputable def nums (ps : List (List UInt8)) : List Int := ps.map fun p => (rdDec p).1

theorem loopL {α β : Type} {f : Int × List α → Option ((Int × List α) ⊕ (List α ⊕ Unit))} {ps : List β} (d : β) (R : β → α × Bool) (hn : ps.length ≤ 4000000)
    (hstep : ∀ (i : Nat) (out : List α), i < ps.length → out.length ≤ i → f ((i : Int), out) = some (bif (R (ps.getD i d)).2 then .inl (((i + 1 : Nat) : Int), out ++ [(R (ps.getD i d)).1]) else .inr (.inr ())))
    (hend : ∀ out : List α, f (((ps.length : Nat) : Int), out) = some (.inr (.inl out))) :
    rounds f ((0 : Int), ([] : List α)) = some (bif ps.all fun p => (R p).2 then .inl (ps.map fun p => (R p).1) else .inr ()) := by
  obtain ⟨r, h1, h2⟩ : ∃ r, rounds f ((0 : Int), ([] : List α)) = some r ∧ r = bif ps.all fun p => (R p).2 then .inl (ps.map fun p => (R p).1) else .inr () := by
    refine rounds_inv (f := f) (fun (n : Nat) (s : Int × List α) => ∃ i : Nat, s = ((i : Int), (ps.take i).map fun p => (R p).1) ∧ i ≤ ps.length ∧ n = ps.length - i ∧ ((ps.take i).all fun p => (R p).2) = true) _ (fun n s hR => ?_) ps.length _ ⟨0, by simp, Nat.zero_le _, rfl, by simp⟩
    obtain ⟨i, rfl, k1, rfl, k3⟩ := hR
    by_cases hi : i < ps.length
    · have hs := hstep i ((ps.take i).map fun p => (R p).1) hi (by rw [List.length_map, List.length_take]; omega)
      have hm : ps.getD i d ∈ ps := by
        rw [List.getD_eq_getElem?_getD, List.getElem?_eq_getElem hi]; exact List.getElem_mem hi
      cases e : (R (ps.getD i d)).2 with
      | true =>
        left
        rw [e, cond_true] at hs
        exact ⟨ps.length - (i + 1), _, by omega, hs, i + 1, by rw [take_snoc hi d, List.map_append]; rfl, hi, rfl, by rw [take_snoc hi d, List.all_append, k3, List.all_cons, e]; rfl⟩
      | false =>
        right
        rw [e, cond_false] at hs
        refine ⟨_, hs, ?_⟩
        have : (ps.all fun p => (R p).2) = false := by
          rw [Bool.eq_false_iff]
          intro q
          rw [List.all_eq_true] at q
          have := q _ hm
          rw [e] at this; cases this
        rw [this]; rfl
    · right
      have : i = ps.length := by omega
      subst this
      rw [List.take_length] at k3 ⊢
      exact ⟨_, hend _, by rw [k3]; rfl⟩
  rw [h1, h2]

theorem loopNums {α : Type} {f : Int × List α → Option ((Int × List α) ⊕ (List α ⊕ Unit))} {ps : List (List UInt8)} (R : List UInt8 → α × Bool) (hn : ps.length ≤ 4000000)
    (hstep : ∀ (i : Nat) (out : List α), i < ps.length → out.length ≤ i → f ((i : Int), out) = some (bif (R (ps.getD i [])).2 then .inl (((i + 1 : Nat) : Int), out ++ [(R (ps.getD i [])).1]) else .inr (.inr ())))
    (hend : ∀ out : List α, f (((ps.length : Nat) : Int), out) = some (.inr (.inl out))) :
    rounds f ((0 : Int), ([] : List α)) = some (bif ps.all fun p => (R p).2 then .inl (ps.map fun p => (R p).1) else .inr ()) := loopL [] R hn hstep hend

noncomputable def rdList (s : List UInt8) : List Int × Bool :=
  bif s == [110, 111, 110, 101] then ([], true) else
    bif numsOk (pcs 44 s) && decide ((pcs 44 s).length ≤ 64) then (nums (pcs 44 s), true) else ([], false)

theorem pcs_len {c : UInt8} : ∀ {s p : List UInt8}, p ∈ pcs c s → p.length ≤ s.length
  | [], p, h => by
    have h : p ∈ [[]] := h
    simp at h; subst h; simp
  | b :: l, p, h => by
    unfold pcs at h
    split at h
    · rcases List.mem_cons.1 h with rfl | h
      · simp
      · have := pcs_len h
        simp only [List.length_cons]; omega
    · cases hq : pcs c l with
      | nil => exact absurd hq (pcs_ne _ _)
      | cons q r =>
        rw [hq] at h
        have h : p ∈ ([b] ++ q) :: r := h
        rcases List.mem_cons.1 h with rfl | h
        · have := pcs_len (c := c) (s := l) (p := q) (by rw [hq]; simp)
          simp; omega
        · have := pcs_len (c := c) (s := l) (p := p) (by rw [hq]; exact List.mem_cons_of_mem _ h)
          simp only [List.length_cons]; omega

theorem getD_pcs {c : UInt8} {s : List UInt8} (i : Nat) : ((pcs c s).getD i []).length ≤ s.length := by
  rw [List.getD_eq_getElem?_getD]
  cases h : (pcs c s)[i]? with
  | none => simp
  | some p => exact pcs_len (List.mem_of_getElem? h)

theorem spec_numbers {s : List UInt8} (h : s.length ≤ 1048576) : spec_l01Numbers s = some (rdList s) := by
  unfold spec_l01Numbers rdList
  cases (s == [110, 111, 110, 101]) with
  | true => rfl
  | false =>
    have hl := pcs_le 44 s
    rw [cond_false, cond_false, show (44 : Int) = (((44 : UInt8).toNat : Nat) : Int) from rfl, cut_ok 44 h, Option.bind_some]
    by_cases h2 : (pcs 44 s).length ≤ 64
    · rw [show decide (lenI (pcs 44 s) > 64) = false by simp only [lenI, decide_eq_false_iff_not]; omega, cond_false, loopNums (f := spec_l01Numbers_B1 (pcs 44 s)) (ps := pcs 44 s) rdDec (by omega) (fun i out hi ho => by
        unfold spec_l01Numbers_B1
        simp only [show decide ((i : Int) < lenI (pcs 44 s)) = true from ltN hi, cond_true, guard_pos (idxN hi), Int.toNat_natCast, spec_value (s := (pcs 44 s).getD i []) (by have := getD_pcs (c := 44) (s := s) i; omega), Option.bind_some]
        cases (rdDec ((pcs 44 s).getD i [])).2 with
        | true => rw [Bool.not_true, cond_false, guard_pos (by simp only [List.length_cons, List.length_nil]; unfold appMax; omega), nextN hi (by omega)]; rfl
        | false => rfl) (fun out => by
        unfold spec_l01Numbers_B1
        simp only [show decide ((((pcs 44 s).length : Nat) : Int) < lenI (pcs 44 s)) = false from geN (Nat.le_refl _), cond_false])]
      rw [show decide ((pcs 44 s).length ≤ 64) = true by simpa using h2, Bool.and_true]
      unfold numsOk nums
      cases (pcs 44 s).all fun p => (rdDec p).2 <;> rfl
    · rw [show decide (lenI (pcs 44 s) > 64) = true by simp only [lenI, decide_eq_true_eq]; omega, cond_true, show decide ((pcs 44 s).length ≤ 64) = false by simpa using h2, Bool.and_false]
      rfl

theorem impl_rdList {s : List UInt8} (h : s.length ≤ 1048576) : impl_ReadList s = some (rdList s) := by
  unfold impl_ReadList impl_readList impl_pieces rdList
  cases (s == [110, 111, 110, 101]) with
  | true =>
    simp only [cond_true, Option.bind_some]
    rw [loopNums (f := impl_readList_B1 []) (ps := []) rdDec (by simp) (fun i out hi => by simp at hi) (fun out => rfl)]
    rfl
  | false =>
    have hl := pcs_le 44 s
    have hs : strings_Split s [44] = some (pcs 44 s) := by
      unfold strings_Split
      rw [guard_pos (show _ ∧ _ from ⟨by omega, by simp⟩), split_pcs]
    simp only [cond_false, hs, Option.bind_some]
    rw [loopNums (f := impl_readList_B1 (pcs 44 s)) (ps := pcs 44 s) rdDec (by omega) (fun i out hi ho => by
        have hrd : impl_ReadDecimal ((pcs 44 s).getD i []) = some (rdDec ((pcs 44 s).getD i [])) := by
          unfold impl_ReadDecimal
          rw [guard_pos (by have := getD_pcs (c := 44) (s := s) i; omega)]
        unfold impl_readList_B1
        simp only [show decide ((i : Int) < lenI (pcs 44 s)) = true from ltN hi, cond_true, guard_pos (idxN hi), Int.toNat_natCast, hrd, Option.bind_some]
        cases (rdDec ((pcs 44 s).getD i [])).2 with
        | true => rw [Bool.not_true, cond_false, guard_pos (by simp only [List.length_cons, List.length_nil]; unfold appMax; omega), nextN hi (by omega)]; rfl
        | false => rfl) (fun out => by
        unfold impl_readList_B1
        simp only [show decide ((((pcs 44 s).length : Nat) : Int) < lenI (pcs 44 s)) = false from geN (Nat.le_refl _), cond_false])]
    unfold numsOk nums
    cases (pcs 44 s).all fun p => (rdDec p).2 with
    | false => rfl
    | true =>
      simp only [cond_true, Option.bind_some, Bool.not_true, cond_false, Bool.true_and, lenI, List.length_map]
      by_cases h2 : (pcs 44 s).length ≤ 64
      · rw [show decide ((((pcs 44 s).length : Nat) : Int) > 64) = false by simp only [decide_eq_false_iff_not]; omega, show decide ((pcs 44 s).length ≤ 64) = true by simpa using h2]
        rfl
      · rw [show decide ((((pcs 44 s).length : Nat) : Int) > 64) = true by simp only [decide_eq_true_eq]; omega, show decide ((pcs 44 s).length ≤ 64) = false by simpa using h2]
        rfl

theorem rdList_len (s : List UInt8) : (rdList s).1.length ≤ 64 := by
  unfold rdList
  cases (s == [110, 111, 110, 101]) with
  | true => simp
  | false =>
    rw [cond_false]
    cases hb : (numsOk (pcs 44 s) && decide ((pcs 44 s).length ≤ 64)) with
    | false => simp
    | true =>
      simp only [Bool.and_eq_true, decide_eq_true_eq] at hb
      rw [cond_true]
      simp only [nums, List.length_map]
      exact hb.2

theorem impl_lists {s : List UInt8} {n : Int} (h : s.length ≤ 1048576) : impl_readLists s n = some (bif (pcs 59 s).all fun p => (rdList p).2 then ((pcs 59 s).map fun p => (rdList p).1, (((pcs 59 s).length : Nat) : Int) == n) else ([], false)) := by
  have hl := pcs_le 59 s
  have hs : strings_Split s [59] = some (pcs 59 s) := by
    unfold strings_Split
    rw [guard_pos (show _ ∧ _ from ⟨by omega, by simp⟩), split_pcs]
  unfold impl_readLists
  rw [hs, Option.bind_some, loopNums (f := impl_readLists_B1 (pcs 59 s)) (ps := pcs 59 s) rdList (by omega) (fun i out hi ho => by
      unfold impl_readLists_B1
      simp only [show decide ((i : Int) < lenI (pcs 59 s)) = true from ltN hi, cond_true, guard_pos (idxN hi), Int.toNat_natCast, impl_rdList (s := (pcs 59 s).getD i []) (by have := getD_pcs (c := 59) (s := s) i; omega), Option.bind_some]
      cases (rdList ((pcs 59 s).getD i [])).2 with
      | true => rw [Bool.not_true, cond_false, guard_pos (by simp only [List.length_cons, List.length_nil]; unfold appMax; omega), nextN hi (by omega)]; rfl
      | false => rfl) (fun out => by
      unfold impl_readLists_B1
      simp only [show decide ((((pcs 59 s).length : Nat) : Int) < lenI (pcs 59 s)) = false from geN (Nat.le_refl _), cond_false])]
  cases (pcs 59 s).all fun p => (rdList p).2 with
  | false => rfl
  | true =>
    simp only [cond_true, Option.bind_some, lenI, List.length_map]

end Go.Proofs


namespace Go.Proofs
open Go.Ide Go.IntWalk

def okRule (s l : Int) (r : Int × Int × Int × Int) : Bool :=
  (decide (r.1 ≥ 0) && decide (r.1 ≤ wsub .i64 s 1)) && ((decide (r.2.2.1 ≥ -1) && decide (r.2.2.1 ≤ wsub .i64 s 1)) && ((decide (r.2.2.2 ≥ 0) && decide (r.2.2.2 ≤ 1000)) &&
    (decide (r.2.1 ≥ 0) && decide (r.2.1 ≤ bif decide (r.2.2.1 < 0) then wsub .i64 l 1 else wsub .i64 s 1))))

def okRules (s l : Int) (rs : List (Int × Int × Int × Int)) : Bool := allN (fun i => okRule s l (rs.getD i (0, 0, 0, 0))) rs.length 0

def okGrammar (s l : Int) (rs : List (Int × Int × Int × Int)) : Bool :=
  (decide (s ≥ 1) && decide (s ≤ 8)) && ((decide (l ≥ 1) && decide (l ≤ 4)) && ((!decide (lenI rs > 32)) && okRules s l rs))

theorem specGrammar {s l : Int} {rs : List (Int × Int × Int × Int)} (h : rs.length ≤ 4294967296) : spec_l06Is (s, l, rs) = some (okGrammar s l rs) := by
  unfold spec_l06Is okGrammar
  simp only [in64, Option.bind_some]
  have := rounds_all (f := spec_l06Is_B1 (s, l, rs)) (fun i => ((i : Nat) : Int)) (fun i => okRule s l (rs.getD i (0, 0, 0, 0))) (Sum.inl ()) (Sum.inr ()) (n := rs.length) (fun i hi => by
    unfold spec_l06Is_B1
    simp only [ltN hi, cond_true, guard_pos (idxN hi), Int.toNat_natCast, in64, Option.bind_some, nextN hi h, okRule]
    obtain ⟨r, hr⟩ : ∃ r, rs.getD i (0, 0, 0, 0) = r := ⟨_, rfl⟩
    simp only [hr]
    by_cases hc : r.2.2.1 < 0
    · have hn : decide (r.2.2.1 ≥ 0) = false := by simp only [decide_eq_false_iff_not]; omega
      simp only [hc, hn, decide_true, cond_true, cond_false]
      generalize (decide (r.1 ≥ 0) && decide (r.1 ≤ wsub .i64 s 1)) = A
      generalize (decide (r.2.2.1 ≥ -1) && decide (r.2.2.1 ≤ wsub .i64 s 1)) = C
      generalize (decide (r.2.2.2 ≥ 0) && decide (r.2.2.2 ≤ 1000)) = D
      generalize (decide (r.2.1 ≥ 0) && decide (r.2.1 ≤ wsub .i64 l 1)) = E
      cases A <;> cases C <;> cases D <;> cases E <;> rfl
    · have hn : decide (r.2.2.1 ≥ 0) = true := by simp only [decide_eq_true_eq]; omega
      simp only [hc, hn, decide_false, cond_true, cond_false]
      generalize (decide (r.1 ≥ 0) && decide (r.1 ≤ wsub .i64 s 1)) = A
      generalize (decide (r.2.2.1 ≥ -1) && decide (r.2.2.1 ≤ wsub .i64 s 1)) = C
      generalize (decide (r.2.2.2 ≥ 0) && decide (r.2.2.2 ≤ 1000)) = D
      generalize (decide (r.2.1 ≥ 0) && decide (r.2.1 ≤ wsub .i64 s 1)) = E
      cases A <;> cases C <;> cases D <;> cases E <;> rfl) (by
    unfold spec_l06Is_B1
    simp only [geN (Nat.le_refl _), cond_false]) rs.length 0 (by omega)
  simp only [Int.natCast_zero] at this
  rw [show allN (fun i => okRule s l (rs.getD i (0, 0, 0, 0))) rs.length 0 = okRules s l rs from rfl] at this
  simp only [this, Option.bind_some]
  generalize (decide (s ≥ 1) && decide (s ≤ 8)) = A
  generalize (decide (l ≥ 1) && decide (l ≤ 4)) = B
  generalize decide (lenI rs > 32) = C
  generalize okRules s l rs = D
  cases A <;> cases B <;> cases C <;> cases D <;> rfl

theorem implGrammar {s l : Int} {rs : List (Int × Int × Int × Int)} (h : rs.length ≤ 4294967296) : impl_ValidGrammar (s, l, rs) = some (okGrammar s l rs) := by
  unfold impl_ValidGrammar okGrammar
  simp only [within64, Option.bind_some]
  have := rounds_all (f := impl_ValidGrammar_B1 (s, l, rs)) (fun i => ((i : Nat) : Int)) (fun i => okRule s l (rs.getD i (0, 0, 0, 0))) (Sum.inl ()) (Sum.inr ()) (n := rs.length) (fun i hi => by
    unfold impl_ValidGrammar_B1
    simp only [ltN hi, cond_true, guard_pos (idxN hi), Int.toNat_natCast, nextN hi h, okRule]
    obtain ⟨r, hr⟩ : ∃ r, rs.getD i (0, 0, 0, 0) = r := ⟨_, rfl⟩
    simp only [hr]
    have hb : (bif (r.2.2.1 == (-1 : Int)) then some (wsub .i64 l 1) else some (wsub .i64 s 1)) = some (bif (r.2.2.1 == (-1 : Int)) then wsub .i64 l 1 else wsub .i64 s 1) := by cases (r.2.2.1 == (-1 : Int)) <;> rfl
    simp only [hb, within64, Option.bind_some]
    by_cases hC : (decide (r.2.2.1 ≥ -1) && decide (r.2.2.1 ≤ wsub .i64 s 1)) = true
    · have he : (r.2.2.1 == (-1 : Int)) = decide (r.2.2.1 < 0) := by
        simp only [Bool.and_eq_true, decide_eq_true_eq] at hC
        rw [Bool.eq_iff_iff]; simp only [beq_iff_eq, decide_eq_true_eq]; omega
      rw [he, hC]
      generalize (decide (r.1 ≥ 0) && decide (r.1 ≤ wsub .i64 s 1)) = A
      generalize (decide (r.2.2.2 ≥ 0) && decide (r.2.2.2 ≤ 1000)) = D
      generalize (decide (r.2.1 ≥ 0) && decide (r.2.1 ≤ bif decide (r.2.2.1 < 0) then wsub .i64 l 1 else wsub .i64 s 1)) = E
      cases A <;> cases D <;> cases E <;> rfl
    · rw [Bool.not_eq_true] at hC
      rw [hC]
      generalize (decide (r.1 ≥ 0) && decide (r.1 ≤ wsub .i64 s 1)) = A
      generalize (decide (r.2.2.2 ≥ 0) && decide (r.2.2.2 ≤ 1000)) = D
      generalize (decide (r.2.1 ≥ 0) && decide (r.2.1 ≤ bif (r.2.2.1 == (-1 : Int)) then wsub .i64 l 1 else wsub .i64 s 1)) = E
      cases A <;> cases D <;> cases E <;> rfl) (by
    unfold impl_ValidGrammar_B1
    simp only [geN (Nat.le_refl _), cond_false]) rs.length 0 (by omega)
  simp only [Int.natCast_zero] at this
  rw [show allN (fun i => okRule s l (rs.getD i (0, 0, 0, 0))) rs.length 0 = okRules s l rs from rfl] at this
  simp only [this, Option.bind_some]
  generalize (decide (s ≥ 1) && decide (s ≤ 8)) = A
  generalize (decide (l ≥ 1) && decide (l ≤ 4)) = B
  generalize decide (lenI rs > 32) = C
  generalize okRules s l rs = D
  cases A <;> cases B <;> cases C <;> cases D <;> rfl

end Go.Proofs


namespace Go.Proofs
open Go.Ide Go.IntWalk

def q4 (xs : List Int) (k : Nat) : Int × Int × Int × Int := (xs.getD (4 * k) 0, xs.getD (4 * k + 1) 0, xs.getD (4 * k + 2) 0, xs.getD (4 * k + 3) 0)
def q4s (xs : List Int) (k : Nat) : List (Int × Int × Int × Int) := (List.range k).map (q4 xs)

theorem q4s_len (xs : List Int) (k : Nat) : (q4s xs k).length = k := by simp [q4s]
theorem q4s_succ (xs : List Int) (k : Nat) : q4s xs (k + 1) = q4s xs k ++ [q4 xs k] := by simp [q4s, List.range_succ]

theorem loopQ {f : Int × List (Int × Int × Int × Int) → Option ((Int × List (Int × Int × Int × Int)) ⊕ List (Int × Int × Int × Int))} {xs : List Int} {m : Nat}
    (hstep : ∀ (k : Nat), k < m → f (((4 * k : Nat) : Int), q4s xs k) = some (.inl (((4 * (k + 1) : Nat) : Int), q4s xs (k + 1))))
    (hend : f (((4 * m : Nat) : Int), q4s xs m) = some (.inr (q4s xs m))) : rounds f ((0 : Int), ([] : List (Int × Int × Int × Int))) = some (q4s xs m) := by
  have key : ∀ (d k : Nat), k + d = m → rounds f (((4 * k : Nat) : Int), q4s xs k) = some (q4s xs m) := by
    intro d
    induction d with
    | zero => intro k hk; have : k = m := by omega
              subst this; rw [rounds_eq, hend]
    | succ d ih => intro k hk; rw [rounds_eq, hstep k (by omega)]; exact ih (k + 1) (by omega)
  exact key m 0 (by omega)

theorem stepQ {xs : List Int} {m k : Nat} (hx : xs.length = 4 * m) (hm : m ≤ 1048576) (hk : k < m) :
    (bif (decide (((4 * k : Nat) : Int) < lenI xs)) then
      guardP ((0 : Int) ≤ ((4 * k : Nat) : Int) ∧ ((4 * k : Nat) : Int) < lenI xs) (
        guardP ((0 : Int) ≤ (wadd .i64 ((4 * k : Nat) : Int) (1 : Int)) ∧ (wadd .i64 ((4 * k : Nat) : Int) (1 : Int)) < lenI xs) (
          guardP ((0 : Int) ≤ (wadd .i64 ((4 * k : Nat) : Int) (2 : Int)) ∧ (wadd .i64 ((4 * k : Nat) : Int) (2 : Int)) < lenI xs) (
            guardP ((0 : Int) ≤ (wadd .i64 ((4 * k : Nat) : Int) (3 : Int)) ∧ (wadd .i64 ((4 * k : Nat) : Int) (3 : Int)) < lenI xs) (
              guardP (List.length (q4s xs k) + List.length ([((List.getD xs (Int.toNat ((4 * k : Nat) : Int)) (0 : Int)), (List.getD xs (Int.toNat (wadd .i64 ((4 * k : Nat) : Int) (1 : Int))) (0 : Int)), (List.getD xs (Int.toNat (wadd .i64 ((4 * k : Nat) : Int) (2 : Int))) (0 : Int)), (List.getD xs (Int.toNat (wadd .i64 ((4 * k : Nat) : Int) (3 : Int))) (0 : Int)))] : List (Int × Int × Int × Int)) ≤ appMax) (
                some (.inl ((wadd .i64 ((4 * k : Nat) : Int) (4 : Int)), (q4s xs k ++ ([((List.getD xs (Int.toNat ((4 * k : Nat) : Int)) (0 : Int)), (List.getD xs (Int.toNat (wadd .i64 ((4 * k : Nat) : Int) (1 : Int))) (0 : Int)), (List.getD xs (Int.toNat (wadd .i64 ((4 * k : Nat) : Int) (2 : Int))) (0 : Int)), (List.getD xs (Int.toNat (wadd .i64 ((4 * k : Nat) : Int) (3 : Int))) (0 : Int)))] : List (Int × Int × Int × Int))))))))))
    else some (.inr (q4s xs k))) = (some (.inl (((4 * (k + 1) : Nat) : Int), q4s xs (k + 1))) : Option ((Int × List (Int × Int × Int × Int)) ⊕ List (Int × Int × Int × Int))) := by
  have w : ∀ j : Nat, j ≤ 4 → wadd .i64 ((4 * k : Nat) : Int) (j : Int) = ((4 * k + j : Nat) : Int) := fun j hj => by
    rw [waddI (by omega)]; omega
  have w1 := w 1 (by omega); have w2 := w 2 (by omega); have w3 := w 3 (by omega); have w4 := w 4 (by omega)
  simp only [Int.ofNat_one, show ((1 : Nat) : Int) = 1 from rfl, show ((2 : Nat) : Int) = 2 from rfl, show ((3 : Nat) : Int) = 3 from rfl, show ((4 : Nat) : Int) = 4 from rfl] at w1 w2 w3 w4
  have hl : lenI xs = ((4 * m : Nat) : Int) := by simp only [lenI, hx]
  rw [w1, w2, w3, w4, hl, show decide (((4 * k : Nat) : Int) < ((4 * m : Nat) : Int)) = true by rw [decide_eq_true_eq]; omega, cond_true,
    guard_pos (by omega), guard_pos (by omega), guard_pos (by omega), guard_pos (by omega), guard_pos (by rw [q4s_len, List.length_singleton]; unfold appMax; omega)]
  simp only [Int.toNat_natCast]
  rw [q4s_succ]
  rfl

theorem chunkQ {f : List Int → List (Int × Int × Int × Int) → Option (List (Int × Int × Int × Int))} {xs : List Int} {m : Nat} (hx : xs.length = 4 * m) (hm : m ≤ 1000000)
    (hf : ∀ ys acc, ys.length = 4 → acc.length ≤ 1000000 → f ys acc = some (acc ++ [(ys.getD 0 0, ys.getD 1 0, ys.getD 2 0, ys.getD 3 0)])) : chunks4 f xs [] = some (q4s xs m) := by
  have key : ∀ (d k : Nat), k + d = m → chunkL f d (xs.drop (4 * k)) (q4s xs k) = some (q4s xs m) := by
    intro d
    induction d with
    | zero => intro k hk; have : k = m := by omega
              subst this; rfl
    | succ d ih =>
      intro k hk
      unfold chunkL
      rw [hf _ _ (by rw [List.length_take, List.length_drop]; omega) (by rw [q4s_len]; omega), Option.bind_some, List.drop_drop]
      have := ih (k + 1) (by omega)
      rw [q4s_succ] at this
      have e : ∀ j, j < 4 → ((xs.drop (4 * k)).take 4).getD j 0 = xs.getD (4 * k + j) 0 := fun j hj => by
        simp [List.getD_eq_getElem?_getD, List.getElem?_take, hj]
      rw [e 0 (by omega), e 1 (by omega), e 2 (by omega), e 3 (by omega)]
      exact this
  unfold chunks4
  rw [guard_pos (by omega), show xs.length / 4 = m by omega]
  have := key m 0 (by omega)
  rw [Nat.mul_zero, List.drop_zero] at this
  exact this

theorem tmod4 {xs : List Int} : (Int.tmod (lenI xs) 4 != 0) = !decide (xs.length % 4 = 0) := by
  simp only [lenI]
  rw [Int.tmod_eq_emod_of_nonneg (by omega)]
  by_cases h : xs.length % 4 = 0
  · rw [decide_eq_true h, bne, show (((xs.length : Nat) : Int) % 4 == 0) = true by rw [beq_iff_eq]; omega]
  · rw [decide_eq_false h, bne, show (((xs.length : Nat) : Int) % 4 == 0) = false by rw [beq_eq_false_iff_ne]; omega]

theorem pieceQ {ys : List Int} {acc : List (Int × Int × Int × Int)} (hy : ys.length = 4) (ha : acc.length ≤ 1000000) :
    (guardP ((0 : Int) ≤ (0 : Int) ∧ (0 : Int) < lenI ys) (
      guardP ((0 : Int) ≤ (1 : Int) ∧ (1 : Int) < lenI ys) (
        guardP ((0 : Int) ≤ (2 : Int) ∧ (2 : Int) < lenI ys) (
          guardP ((0 : Int) ≤ (3 : Int) ∧ (3 : Int) < lenI ys) (
            guardP (List.length acc + List.length ([((List.getD ys (Int.toNat (0 : Int)) (0 : Int)), (List.getD ys (Int.toNat (1 : Int)) (0 : Int)), (List.getD ys (Int.toNat (2 : Int)) (0 : Int)), (List.getD ys (Int.toNat (3 : Int)) (0 : Int)))] : List (Int × Int × Int × Int)) ≤ appMax) (
              some (acc ++ ([((List.getD ys (Int.toNat (0 : Int)) (0 : Int)), (List.getD ys (Int.toNat (1 : Int)) (0 : Int)), (List.getD ys (Int.toNat (2 : Int)) (0 : Int)), (List.getD ys (Int.toNat (3 : Int)) (0 : Int)))] : List (Int × Int × Int × Int)))))))) : Option (List (Int × Int × Int × Int))) =
    some (acc ++ [(ys.getD 0 0, ys.getD 1 0, ys.getD 2 0, ys.getD 3 0)]) := by
  have hl : lenI ys = 4 := by simp only [lenI, hy]; rfl
  rw [hl, guard_pos (by omega), guard_pos (by omega), guard_pos (by omega), guard_pos (by omega), guard_pos (by rw [List.length_singleton]; unfold appMax; omega)]
  rfl

theorem specQG {y8 : List Int × Bool} {m : Nat} (hx : y8.1.length = 4 * m) (hm : m ≤ 1000000) : rounds (spec_l08ReadGrammar_B1 y8) ((0 : Int), ([] : List (Int × Int × Int × Int))) = some (q4s y8.1 m) :=
  loopQ (f := spec_l08ReadGrammar_B1 y8) (fun k hk => by
    unfold spec_l08ReadGrammar_B1
    exact stepQ hx (by omega) hk) (by
    unfold spec_l08ReadGrammar_B1
    simp only [show lenI y8.1 = ((4 * m : Nat) : Int) by simp only [lenI, hx], Int.lt_irrefl, decide_false, cond_false])

theorem lists_n {s : List UInt8} {n : Nat} (h : s.length ≤ 1048576) (hn : (pcs 59 s).length ≠ n) :
    ∃ ls, impl_readLists s (n : Int) = some (ls, false) := by
  rw [impl_lists h]
  cases (pcs 59 s).all fun p => (rdList p).2 with
  | false => exact ⟨_, rfl⟩
  | true =>
    refine ⟨(pcs 59 s).map fun p => (rdList p).1, ?_⟩
    rw [cond_true, show (((((pcs 59 s).length : Nat)) : Int) == (n : Int)) = false by rw [beq_eq_false_iff_ne]; omega]

theorem ReadGrammar_eq {x0_0 : List UInt8} (h0 : x0_0.length ≤ 1048576) : ∃ r, spec_ReadGrammar x0_0 = some r ∧ impl_ReadGrammar x0_0 = some r ∧ r.1.2.2.length ≤ 1000000 := by
  have zero : ∃ r : (Int × Int × List (Int × Int × Int × Int)) × Bool, r = (((0 : Int), (0 : Int), ([] : List (Int × Int × Int × Int))), false) ∧ r.1.2.2.length ≤ 1000000 := ⟨_, rfl, by simp⟩
  obtain ⟨z, hz, hz1⟩ := zero
  unfold spec_ReadGrammar spec_l08ReadGrammar impl_ReadGrammar
  rw [show (59 : Int) = (((59 : UInt8).toNat : Nat) : Int) from rfl, cut_ok 59 h0, Option.bind_some]
  by_cases h2 : (pcs 59 x0_0).length = 2
  · have hl := impl_lists (n := 2) h0
    have hpl : ∀ p ∈ pcs 59 x0_0, p.length ≤ 1048576 := fun p hp => Nat.le_trans (pcs_len hp) h0
    generalize hP : pcs 59 x0_0 = P at h2 hl hpl ⊢
    obtain ⟨p0, p1, rfl⟩ : ∃ p0 p1, P = [p0, p1] := by
      match P, h2 with
      | [p0, p1], _ => exact ⟨p0, p1, rfl⟩
    have hp0 := hpl p0 (by simp)
    have hp1 := hpl p1 (by simp)
    rw [hl, Option.bind_some, show (lenI [p0, p1] != 2) = false from rfl, cond_false]
    simp only [show ((0 : Int) ≤ 0 ∧ (0 : Int) < lenI [p0, p1]) from ⟨by omega, by simp [lenI]⟩, show ((0 : Int) ≤ 1 ∧ (1 : Int) < lenI [p0, p1]) from ⟨by omega, by simp [lenI]⟩, guardP, and_self, if_true,
      show List.getD [p0, p1] (Int.toNat 0) [] = p0 from rfl, show List.getD [p0, p1] (Int.toNat 1) [] = p1 from rfl, spec_numbers hp0, spec_numbers hp1, Option.bind_some, List.all_cons, List.all_nil, Bool.and_true, List.map_cons, List.map_nil]
    have hr0 := rdList_len p0
    have hr1 := rdList_len p1
    generalize rdList p0 = a0 at hr0 ⊢
    generalize rdList p1 = a1 at hr1 ⊢
    obtain ⟨l0, b0⟩ := a0
    obtain ⟨l1, b1⟩ := a1
    cases b0 with
    | false => exact ⟨z, by rw [hz]; rfl, by rw [hz]; rfl, hz1⟩
    | true =>
      cases b1 with
      | false => exact ⟨z, by rw [hz]; rfl, by rw [hz]; rfl, hz1⟩
      | true =>
        have hr1 : l1.length ≤ 64 := hr1
        simp only [Bool.and_self, cond_true, Bool.not_true, cond_false, Option.bind_some, show (((([p0, p1].length : Nat)) : Int) == 2) = true from rfl,
          show ((0 : Int) ≤ 0 ∧ (0 : Int) < lenI [l0, l1]) from ⟨by omega, by simp [lenI]⟩, show ((0 : Int) ≤ 1 ∧ (1 : Int) < lenI [l0, l1]) from ⟨by omega, by simp [lenI]⟩, and_self, if_true,
          show List.getD [l0, l1] (Int.toNat 0) [] = l0 from rfl, show List.getD [l0, l1] (Int.toNat 1) [] = l1 from rfl, show Int.toNat 1 < [l0, l1].length from by simp]
        by_cases hl2 : l0.length = 2
        · obtain ⟨n0, n1, rfl⟩ : ∃ n0 n1, l0 = [n0, n1] := by
            match l0, hl2 with
            | [n0, n1], _ => exact ⟨n0, n1, rfl⟩
          by_cases h4 : l1.length % 4 = 0
          · obtain ⟨m, hm⟩ : ∃ m, l1.length = 4 * m := ⟨l1.length / 4, by omega⟩
            have hmm : m ≤ 1000000 := by omega
            simp only [show (lenI [n0, n1] != 2) = false from rfl, cond_false, Option.bind_some, tmod4 (xs := l1), decide_eq_true h4, Bool.not_true,
              show ((0 : Int) ≤ 0 ∧ (0 : Int) < lenI [n0, n1]) from ⟨by omega, by simp [lenI]⟩, show ((0 : Int) ≤ 1 ∧ (1 : Int) < lenI [n0, n1]) from ⟨by omega, by simp [lenI]⟩, and_self, if_true,
              specQG (y8 := (l1, true)) hm hmm, chunkQ (f := impl_ReadGrammar_B1) hm hmm (fun ys acc hy ha => by unfold impl_ReadGrammar_B1; exact pieceQ hy ha)]
            have hq : (q4s l1 m).length ≤ 1000000 := by rw [q4s_len]; omega
            unfold impl_validGrammar_mv0
            simp only [specGrammar (s := List.getD [n0, n1] (Int.toNat 0) 0) (l := List.getD [n0, n1] (Int.toNat 1) 0) (rs := q4s l1 m) (by omega),
              implGrammar (s := List.getD [n0, n1] (Int.toNat 0) 0) (l := List.getD [n0, n1] (Int.toNat 1) 0) (rs := q4s l1 m) (by omega), Option.bind_some]
            cases okGrammar (List.getD [n0, n1] (Int.toNat 0) 0) (List.getD [n0, n1] (Int.toNat 1) 0) (q4s l1 m) with
            | false => exact ⟨z, by rw [hz]; rfl, by rw [hz]; rfl, hz1⟩
            | true => exact ⟨_, rfl, rfl, hq⟩
          · simp only [show (lenI [n0, n1] != 2) = false from rfl, cond_false, tmod4 (xs := l1), decide_eq_false h4, Bool.not_false, Option.bind_some, cond_true]
            exact ⟨z, by rw [hz], by rw [hz], hz1⟩
        · have : (lenI l0 != 2) = true := by rw [bne_iff_ne]; simp only [lenI]; omega
          simp only [this, cond_true, Option.bind_some]
          exact ⟨z, by rw [hz], by rw [hz], hz1⟩
  · obtain ⟨ls, hl⟩ := lists_n (n := 2) h0 h2
    have hl : impl_readLists x0_0 2 = some (ls, false) := hl
    rw [hl]
    refine ⟨z, ?_, by rw [hz]; rfl, hz1⟩
    rw [show (lenI (pcs 59 x0_0) != 2) = true by rw [bne_iff_ne]; simp only [lenI]; omega, cond_true, hz]
    rfl

end Go.Proofs


namespace Go.Proofs
open Go.Ide Go.IntWalk

theorem ReadGrammar_law (x0 : List UInt8) (w0 : WfD .str x0) : laws_FnExactReadGrammar x0 = some true := by
  obtain ⟨x0_0, rfl⟩ : ∃ y, y = x0 := ⟨_, rfl⟩
  have hx0_0 : x0_0.length ≤ 9223372036854775807 := Nat.le_trans (w0) (by decide)
  unfold laws_FnExactReadGrammar
  by_cases c1 : lenI x0_0 > (1048576 : Int)
  · simp only [c1, decide_true, cond_true]
  · simp only [c1, decide_false, cond_false]
    have ox0_0 : x0_0.length ≤ 1048576 := by simp only [lenI] at c1; omega
    obtain ⟨⟨⟨r0_0, ⟨r0_1, r0_2⟩⟩, r1_0⟩, k1, k2, or0_2⟩ := ReadGrammar_eq (x0_0 := x0_0) ox0_0
    have or0_2 : r0_2.length ≤ 1000000 := or0_2
    simp only [k1,
      k2,
      Option.bind_some,
      Bool.not_true,
      cond_false,
      bne_self_eq_false,
      cond_true,
      eqGrammar_ok (x0 := r0_0) (x1 := r0_1) (x2 := r0_2) (by omega : r0_2.length ≤ 1048576),
      markGrammar_ok (k := (1 : Int)) (x0 := r0_0) (x1 := r0_1) (x2 := r0_2) (by omega : r0_2.length ≤ 1048576) (by omega),
      heldGrammar_ok (k := (1 : Int)) (by omega : r0_2.length ≤ 1048576) (by omega),
      (show decide ((1 : Int) + ((4 * r0_2.length : Nat) : Int) < 0) = false from by simp only [decide_eq_false_iff_not]; omega)]

end Go.Proofs
