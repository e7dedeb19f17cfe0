import Derived.Test.YtjekgiabgglokaaAllWordsGenA
set_option linter.unusedVariables false
set_option linter.unusedSimpArgs false
set_option linter.unusedSectionVars false

namespace Go.Proofs
open Go.Ide Go.IntWalk

theorem sameFloat_ok (x : Nat) : laws_sameFloat x x = some true := by
  unfold laws_sameFloat
  cases h1 : feq .f64 x x <;> cases h2 : feq .f64 x 0 <;> simp [h1, h2]

theorem toFloat32S_ok {xs : List Nat} (h : xs.length ≤ 1048576) : laws_toFloat32S xs = some xs := by
  unfold laws_toFloat32S
  rw [guard_pos ⟨by simp only [lenI]; omega, by simp only [lenI]; omega⟩]
  have := loop_to (f := laws_toFloat32S_B1 xs) xs (0 : Nat) (fun i out hi hl => by
    unfold laws_toFloat32S_B1
    simp only [ltN hi, cond_true, guard_pos (idxN hi), guard_pos (idxN (i := i) (n := out.length) (by omega)), Int.toNat_natCast, nextN hi (by omega)]) (fun out hl => by
    unfold laws_toFloat32S_B1
    simp only [geN (Nat.le_refl _), cond_false])
  simp only [Int.toNat_natCast, this, Option.bind_some]

theorem eqFloat32S_ok {xs : List Nat} (h : xs.length ≤ 1048576) : laws_eqFloat32S xs xs = some true := by
  unfold laws_eqFloat32S
  have := loop_eq (f := laws_eqFloat32S_B1 xs xs) (Sum.inl ()) xs.length (fun i hi => by
    unfold laws_eqFloat32S_B1
    simp only [ltN hi, cond_true, guard_pos (idxN hi), bne_self_eq_false, sameFloat_ok, Option.bind_some, Bool.not_true, cond_false, nextN hi (by omega)]) (by
    unfold laws_eqFloat32S_B1
    simp only [geN (Nat.le_refl _), cond_false])
  simp only [bne_self_eq_false, cond_false, this, Option.bind_some]

end Go.Proofs


/-
  AllWords: elimination on a flat matrix is elimination on rows. The steps.
-/
namespace Go.Proofs
open Go.Ide Go.IntWalk

theorem awSet {α : Type} {xs : List α} {i j : Nat} {x d : α} (hi : i < xs.length) : (xs.set i x).getD j d = if i = j then x else xs.getD j d := by
  rw [List.getD_eq_getElem?_getD, List.getElem?_set]
  split
  · rename_i h; subst h; simp [hi]
  · rw [List.getD_eq_getElem?_getD]

theorem awInj {n r c r' c' : Nat} (hc : c < n) (hc' : c' < n) : r * n + c = r' * n + c' ↔ r = r' ∧ c = c' := by
  constructor
  · intro h
    have h1 : (r * n + c) / n = r := by rw [Nat.add_comm, Nat.add_mul_div_right _ _ (by omega), Nat.div_eq_of_lt hc, Nat.zero_add]
    have h2 : (r' * n + c') / n = r' := by rw [Nat.add_comm, Nat.add_mul_div_right _ _ (by omega), Nat.div_eq_of_lt hc', Nat.zero_add]
    have : r = r' := by rw [← h1, ← h2, h]
    subst this
    exact ⟨rfl, by omega⟩
  · rintro ⟨rfl, rfl⟩; rfl

structure SRep (n : Nat) (a b : List Nat) (M : Nat → Nat → Nat) : Prop where
  la : a.length = n * n
  lb : b.length = n
  ga : ∀ r c, r < n → c < n → a.getD (r * n + c) 0 = M r c
  gb : ∀ r, r < n → b.getD r 0 = M r n

structure IRep (n : Nat) (rows : List (List Nat)) (M : Nat → Nat → Nat) : Prop where
  lr : rows.length = n
  lc : ∀ r, r < n → (rows.getD r []).length = n + 1
  g : ∀ r c, r < n → c ≤ n → (rows.getD r []).getD c 0 = M r c

def rowOut (M : Nat → Nat → Nat) (k r0 q m : Nat) : Nat → Nat → Nat := fun r c => if r = r0 ∧ k < c ∧ c < m then fop .sub .f32 (M r0 c) (fop .mul .f32 q (M k c)) else M r c

theorem awOneS {n k r0 q : Nat} {a1 A B : List Nat} {M : Nat → Nat → Nat} (h1 : a1.length = n) (hn : n ≤ 5) (hk : k < r0) (hr : r0 < n) (h : SRep n A B M) (x9 x64 : List Nat × List Nat) :
    ∃ A', rounds (spec_AllWords_B4 a1 ((k : Int), x9) ((r0 : Int), x64) q) (((k + 1 : Nat) : Int), A) = some A' ∧ A'.length = n * n ∧ ∀ r c, r < n → c < n → A'.getD (r * n + c) 0 = rowOut M k r0 q n r c := by
  refine rounds_inv (fun m s => ∃ (i : Nat) (a : List Nat), s = ((i : Int), a) ∧ m = n - i ∧ k < i ∧ i ≤ n ∧ a.length = n * n ∧ ∀ r c, r < n → c < n → a.getD (r * n + c) 0 = rowOut M k r0 q i r c) _ ?_ (n - (k + 1)) _
    ⟨k + 1, A, rfl, rfl, by omega, by omega, h.la, fun r c hr hc => by rw [h.ga r c hr hc]; unfold rowOut; rw [if_neg (by omega)]⟩
  rintro m s ⟨i, a, rfl, rfl, hi1, hi2, hl, hg⟩
  unfold spec_AllWords_B4
  simp only [lenI, h1]
  by_cases hi : i < n
  · left
    have e1 := cellN (c := n) (i := r0) (k := i) (by omega) (by omega) (by omega)
    have e2 := cellN (c := n) (i := k) (k := i) (by omega) (by omega) (by omega)
    have p1 : r0 * n + i < a.length := by rw [hl]; exact cell_lt hr hi
    have p2 : k * n + i < a.length := by rw [hl]; exact cell_lt (by omega) hi
    have g1 : a.getD (r0 * n + i) 0 = M r0 i := by rw [hg r0 i hr hi]; unfold rowOut; rw [if_neg (by omega)]
    have g2 : a.getD (k * n + i) 0 = M k i := by rw [hg k i (by omega) hi]; unfold rowOut; rw [if_neg (by omega)]
    refine ⟨n - (i + 1), (((i + 1 : Nat) : Int), a.set (r0 * n + i) (fop .sub .f32 (M r0 i) (fop .mul .f32 q (M k i)))), by omega, ?_, i + 1, _, rfl, rfl, by omega, by omega, by simpa using hl, ?_⟩
    · simp only [ltN hi, cond_true, e1, e2, guard_pos (idxN p1), guard_pos (idxN p2), Int.toNat_natCast, nextN hi (by omega), g1, g2]
    · intro r c hr' hc
      rw [awSet p1, hg r c hr' hc]
      unfold rowOut
      simp only [awInj hi hc]
      by_cases e : r0 = r ∧ i = c
      · obtain ⟨rfl, rfl⟩ := e
        rw [if_pos ⟨rfl, rfl⟩, if_pos ⟨rfl, by omega, by omega⟩]
      · rw [if_neg e]
        by_cases e2 : r = r0 ∧ k < c ∧ c < i
        · rw [if_pos e2, if_pos (by omega)]
        · rw [if_neg e2, if_neg (by omega)]
  · right
    have : i = n := by omega
    subst this
    exact ⟨a, by simp only [geN (Nat.le_refl _), cond_false], hl, hg⟩

theorem awOneI {n k r0 q : Nat} {a0 rows : List (List Nat)} {M : Nat → Nat → Nat} (h1 : a0.length = n) (hn : n ≤ 5) (hk : k < r0) (hr : r0 < n) (h : IRep n rows M) (x1 x44 : List (List Nat)) :
    ∃ rows', rounds (impl_solve_mv0_B3 a0 ((k : Int), x1) ((r0 : Int), x44) q) (((k + 1 : Nat) : Int), rows) = some rows' ∧ IRep n rows' (rowOut M k r0 q (n + 1)) := by
  refine rounds_inv (fun m s => ∃ (i : Nat) (a : List (List Nat)), s = ((i : Int), a) ∧ m = n + 1 - i ∧ k < i ∧ i ≤ n + 1 ∧ IRep n a (rowOut M k r0 q i)) _ ?_ (n + 1 - (k + 1)) _
    ⟨k + 1, rows, rfl, rfl, by omega, by omega, h.lr, h.lc, fun r c hr hc => by rw [h.g r c hr hc]; unfold rowOut; rw [if_neg (by omega)]⟩
  rintro m s ⟨i, a, rfl, rfl, hi1, hi2, hl, hc, hg⟩
  unfold impl_solve_mv0_B3
  simp only [lenI, h1]
  by_cases hi : i < n + 1
  · left
    have p1 : r0 < a.length := by omega
    have p2 : k < a.length := by omega
    have q1 : i < (a.getD r0 []).length := by rw [hc r0 hr]; omega
    have q2 : i < (a.getD k []).length := by rw [hc k (by omega)]; omega
    have g1 : (a.getD r0 []).getD i 0 = M r0 i := by rw [hg r0 i hr (by omega)]; unfold rowOut; rw [if_neg (by omega)]
    have g2 : (a.getD k []).getD i 0 = M k i := by rw [hg k i (by omega) (by omega)]; unfold rowOut; rw [if_neg (by omega)]
    refine ⟨n + 1 - (i + 1), (((i + 1 : Nat) : Int), a.set r0 ((a.getD r0 []).set i (fop .sub .f32 (M r0 i) (fop .mul .f32 q (M k i))))), by omega, ?_, i + 1, _, rfl, rfl, by omega, by omega, by simpa using hl, ?_, ?_⟩
    · simp only [show decide ((i : Int) ≤ (n : Int)) = true from decide_eq_true (by omega), cond_true, guard_pos (idxN p1), guard_pos (idxN p2), guard_pos (idxN q1), guard_pos (idxN q2), Int.toNat_natCast, nextN hi (by omega), g1, g2]
    · intro r hr'
      rw [awSet p1]
      split
      · rw [List.length_set]; exact hc r0 hr
      · exact hc r hr'
    · intro r c hr' hc'
      rw [awSet p1]
      have hg' := hg r c hr' hc'
      unfold rowOut at hg' ⊢
      by_cases e : r0 = r
      · subst e
        rw [if_pos rfl, awSet q1]
        by_cases e1 : i = c
        · subst e1
          rw [if_pos rfl, if_pos ⟨rfl, by omega, by omega⟩]
        · rw [if_neg e1, hg']
          by_cases e2 : r0 = r0 ∧ k < c ∧ c < i
          · rw [if_pos e2, if_pos (by omega)]
          · rw [if_neg e2, if_neg (by omega)]
      · rw [if_neg e, hg', if_neg (by omega), if_neg (by omega)]
  · right
    have : i = n + 1 := by omega
    subst this
    exact ⟨a, by simp only [show decide (((n + 1 : Nat) : Int) ≤ (n : Int)) = false from decide_eq_false (by omega), cond_false], hl, hc, hg⟩

theorem awElim {n k : Nat} {a1 A B : List Nat} {a0 rows : List (List Nat)} {M : Nat → Nat → Nat} (h0 : a0.length = n) (h1 : a1.length = n) (hn : n ≤ 5) (hk : k < n) (h : SRep n A B M) (h' : IRep n rows M)
    (x9 : List Nat × List Nat) (x1 : List (List Nat)) :
    ∃ r r', rounds (spec_AllWords_B5 a1 ((k : Int), x9)) (((k + 1 : Nat) : Int), A, B) = some r ∧ rounds (impl_solve_mv0_B4 a0 ((k : Int), x1)) (((k + 1 : Nat) : Int), rows) = some r' ∧
      ∃ M', SRep n r.1 r.2 M' ∧ IRep n r' M' := by
  refine rounds_rel (fun m s t => ∃ (r : Nat) (A B : List Nat) (rows : List (List Nat)) (M : Nat → Nat → Nat), s = ((r : Int), A, B) ∧ t = ((r : Int), rows) ∧ m = n - r ∧ k < r ∧ r ≤ n ∧ SRep n A B M ∧ IRep n rows M) _ ?_ (n - (k + 1)) _ _
    ⟨k + 1, A, B, rows, M, rfl, rfl, rfl, by omega, by omega, h, h'⟩
  rintro m s t ⟨r, A, B, rows, M, rfl, rfl, rfl, hr1, hr2, h, h'⟩
  by_cases hr : r < n
  · left
    have e1 := cellN (c := n) (i := r) (k := k) (by omega) (by omega) (by omega)
    have e2 := cellN (c := n) (i := k) (k := k) (by omega) (by omega) (by omega)
    have p1 : r * n + k < A.length := by rw [h.la]; exact cell_lt hr hk
    have p2 : k * n + k < A.length := by rw [h.la]; exact cell_lt hk hk
    have s1 : r < rows.length := by rw [h'.lr]; exact hr
    have s2 : k < rows.length := by rw [h'.lr]; exact hk
    have t1 : k < (rows.getD r []).length := by rw [h'.lc r hr]; omega
    have t2 : k < (rows.getD k []).length := by rw [h'.lc k hk]; omega
    have b1 : r < B.length := by rw [h.lb]; exact hr
    have b2 : k < B.length := by rw [h.lb]; exact hk
    obtain ⟨A', f1, f2, f3⟩ := awOneS (q := fop .quo .f32 (M r k) (M k k)) h1 hn hr1 hr h x9 (A, B)
    obtain ⟨rows', f4, f5⟩ := awOneI (q := fop .quo .f32 (M r k) (M k k)) h0 hn hr1 hr h' x1 rows
    refine ⟨n - (r + 1), (((r + 1 : Nat) : Int), A', B.set r (fop .sub .f32 (M r n) (fop .mul .f32 (fop .quo .f32 (M r k) (M k k)) (M k n)))), (((r + 1 : Nat) : Int), rows'), by omega, ?_, ?_, r + 1, A', _, rows', _, rfl, rfl, rfl, by omega, by omega, ?_, f5⟩
    · unfold spec_AllWords_B5
      simp only [lenI, h1, ltN hr, cond_true, e1, e2, guard_pos (idxN p1), guard_pos (idxN p2), Int.toNat_natCast, Option.bind_some, h.ga r k hr hk, h.ga k k hk hk, nextN hk (show n ≤ 4294967296 by omega), f1,
        guard_pos (idxN b1), guard_pos (idxN b2), h.gb r hr, h.gb k hk, nextN hr (show n ≤ 4294967296 by omega)]
    · unfold impl_solve_mv0_B4
      simp only [lenI, h0, ltN hr, cond_true, guard_pos (idxN s1), guard_pos (idxN s2), guard_pos (idxN t1), guard_pos (idxN t2), Int.toNat_natCast, Option.bind_some, h'.g r k hr (by omega), h'.g k k hk (by omega), nextN hk (show n ≤ 4294967296 by omega), f4,
        nextN hr (show n ≤ 4294967296 by omega)]
    · refine ⟨f2, by simpa using h.lb, fun r' c hr' hc => ?_, fun r' hr' => ?_⟩
      · rw [f3 r' c hr' hc]
        unfold rowOut
        by_cases e : r' = r ∧ k < c ∧ c < n
        · rw [if_pos e, if_pos (by omega)]
        · rw [if_neg e, if_neg (by omega)]
      · rw [awSet b1]
        unfold rowOut
        by_cases e : r = r'
        · subst e
          rw [if_pos rfl, if_pos ⟨rfl, by omega, by omega⟩]
        · rw [if_neg e, if_neg (by omega), h.gb r' hr']
  · right
    have : r = n := by omega
    subst this
    refine ⟨(A, B), rows, ?_, ?_, M, h, h'⟩
    · unfold spec_AllWords_B5
      simp only [lenI, h1, geN (Nat.le_refl _), cond_false]
    · unfold impl_solve_mv0_B4
      simp only [lenI, h0, geN (Nat.le_refl _), cond_false]

end Go.Proofs


/-
  AllWords: pivots, rows that change places, the whole elimination, the way back.
-/
namespace Go.Proofs
open Go.Ide Go.IntWalk

theorem awAbs (x : Nat) : impl_absolute x = some (bif flt .f32 x 0 then fneg .f32 x else x) := by
  unfold impl_absolute
  cases flt .f32 x 0 <;> rfl

theorem awIf {P : Nat → Prop} {x y : Nat} (b : Bool) (h1 : P x) (h2 : P y) : P (bif b then x else y) := by
  cases b <;> assumption

theorem awPivot {n k : Nat} {a1 A B : List Nat} {a0 rows : List (List Nat)} {M : Nat → Nat → Nat} (h0 : a0.length = n) (h1 : a1.length = n) (hn : n ≤ 5) (hk : k < n) (h : SRep n A B M) (h' : IRep n rows M) :
    ∃ p : Nat, rounds (spec_AllWords_B7 a1 ((k : Int), A, B)) ((k : Int), ((k + 1 : Nat) : Int)) = some (p : Int) ∧ rounds (impl_solve_mv0_B5 a0 ((k : Int), rows)) ((k : Int), ((k + 1 : Nat) : Int)) = some (p : Int) ∧ k ≤ p ∧ p < n := by
  have := rounds_rel (f := spec_AllWords_B7 a1 ((k : Int), A, B)) (g := impl_solve_mv0_B5 a0 ((k : Int), rows)) (fun m s t => ∃ p r : Nat, s = ((p : Int), (r : Int)) ∧ t = ((p : Int), (r : Int)) ∧ m = n - r ∧ k ≤ p ∧ p < n ∧ r ≤ n ∧ k < r)
    (fun s t => ∃ p : Nat, s = (p : Int) ∧ t = (p : Int) ∧ k ≤ p ∧ p < n) (by
    rintro m s t ⟨p, r, rfl, rfl, rfl, hp1, hp2, hr2, hkr⟩
    by_cases hr : r < n
    · left
      have e1 := cellN (c := n) (i := r) (k := k) (by omega) (by omega) (by omega)
      have e2 := cellN (c := n) (i := p) (k := k) (by omega) (by omega) (by omega)
      have p1 : r * n + k < A.length := by rw [h.la]; exact cell_lt hr hk
      have p2 : p * n + k < A.length := by rw [h.la]; exact cell_lt hp2 hk
      have s1 : r < rows.length := by rw [h'.lr]; exact hr
      have s2 : p < rows.length := by rw [h'.lr]; exact hp2
      have t1 : k < (rows.getD r []).length := by rw [h'.lc r hr]; omega
      have t2 : k < (rows.getD p []).length := by rw [h'.lc p hp2]; omega
      have key : ∀ b : Bool, (show Option Int from bif b then some (r : Int) else some (p : Int)) = some (((bif b then r else p : Nat)) : Int) := by intro b; cases b <;> rfl
      have sp : ∀ x : Nat, (show Option Nat from bif flt .f32 x 0 then some (fneg .f32 x) else some x) = some (bif flt .f32 x 0 then fneg .f32 x else x) := by intro x; cases flt .f32 x 0 <;> rfl
      refine ⟨n - (r + 1), (((bif fgt .f32 (bif flt .f32 (M r k) 0 then fneg .f32 (M r k) else M r k) (bif flt .f32 (M p k) 0 then fneg .f32 (M p k) else M p k) then r else p : Nat) : Int), ((r + 1 : Nat) : Int)), _, by omega, ?_, ?_, _, r + 1, rfl, rfl, rfl, ?_, ?_, by omega, by omega⟩
      · unfold spec_AllWords_B7
        simp only [lenI, h1, ltN hr, cond_true, e1, e2, guard_pos (idxN p1), guard_pos (idxN p2), Int.toNat_natCast, h.ga r k hr hk, h.ga p k hp2 hk, nextN hr (show n ≤ 4294967296 by omega)]
        have a1 := sp (M r k)
        have a2 := sp (M p k)
        simp only [] at a1 a2
        simp only [a1, a2, Option.bind_some]
        have a3 := key (fgt .f32 (bif flt .f32 (M r k) 0 then fneg .f32 (M r k) else M r k) (bif flt .f32 (M p k) 0 then fneg .f32 (M p k) else M p k))
        simp only [] at a3
        simp only [a3, Option.bind_some]
      · unfold impl_solve_mv0_B5
        simp only [lenI, h0, ltN hr, cond_true, guard_pos (idxN s1), guard_pos (idxN s2), guard_pos (idxN t1), guard_pos (idxN t2), Int.toNat_natCast, h'.g r k hr (by omega), h'.g p k hp2 (by omega), nextN hr (show n ≤ 4294967296 by omega), awAbs, Option.bind_some]
        have a3 := key (fgt .f32 (bif flt .f32 (M r k) 0 then fneg .f32 (M r k) else M r k) (bif flt .f32 (M p k) 0 then fneg .f32 (M p k) else M p k))
        simp only [] at a3
        simp only [a3, Option.bind_some]
      · exact awIf (P := fun v => k ≤ v) _ (by omega) hp1
      · exact awIf (P := fun v => v < n) _ hr hp2
    · right
      have : r = n := by omega
      subst this
      refine ⟨(p : Int), (p : Int), ?_, ?_, p, rfl, rfl, hp1, hp2⟩
      · unfold spec_AllWords_B7
        simp only [lenI, h1, geN (Nat.le_refl _), cond_false]
      · unfold impl_solve_mv0_B5
        simp only [lenI, h0, geN (Nat.le_refl _), cond_false]) (n - (k + 1)) _ _ ⟨k, k + 1, rfl, rfl, rfl, by omega, by omega, by omega, by omega⟩
  obtain ⟨r, r', f1, f2, p, rfl, rfl, hp⟩ := this
  exact ⟨p, f1, f2, hp⟩

def swM (M : Nat → Nat → Nat) (k p : Nat) : Nat → Nat → Nat := fun r c => if r = k then M p c else if r = p then M k c else M r c

theorem awSwapS {n k p : Nat} {a1 A B : List Nat} {M : Nat → Nat → Nat} (h1 : a1.length = n) (hn : n ≤ 5) (hk : k < n) (hp : p < n) (h : SRep n A B M) (x9 : List Nat × List Nat) :
    ∃ A', rounds (spec_AllWords_B6 a1 ((k : Int), x9) (p : Int)) ((0 : Int), A) = some A' ∧ SRep n A' ((B.set k (B.getD p 0)).set p (B.getD k 0)) (swM M k p) := by
  have := rounds_inv (f := spec_AllWords_B6 a1 ((k : Int), x9) (p : Int)) (fun m s => ∃ (i : Nat) (a : List Nat), s = ((i : Int), a) ∧ m = n - i ∧ i ≤ n ∧ a.length = n * n ∧ ∀ r c, r < n → c < n → a.getD (r * n + c) 0 = if c < i then swM M k p r c else M r c)
    (fun a => a.length = n * n ∧ ∀ r c, r < n → c < n → a.getD (r * n + c) 0 = swM M k p r c) (by
    rintro m s ⟨i, a, rfl, rfl, hi2, hl, hg⟩
    by_cases hi : i < n
    · left
      have e1 := cellN (c := n) (i := k) (k := i) (by omega) (by omega) (by omega)
      have e2 := cellN (c := n) (i := p) (k := i) (by omega) (by omega) (by omega)
      have p1 : k * n + i < a.length := by rw [hl]; exact cell_lt hk hi
      have p2 : p * n + i < a.length := by rw [hl]; exact cell_lt hp hi
      have g1 : a.getD (k * n + i) 0 = M k i := by rw [hg k i hk hi, if_neg (by omega)]
      have g2 : a.getD (p * n + i) 0 = M p i := by rw [hg p i hp hi, if_neg (by omega)]
      have p3 : p * n + i < (a.set (k * n + i) (M p i)).length := by rw [List.length_set]; exact p2
      refine ⟨n - (i + 1), (((i + 1 : Nat) : Int), (a.set (k * n + i) (M p i)).set (p * n + i) (M k i)), by omega, ?_, i + 1, _, rfl, rfl, by omega, by simpa using hl, ?_⟩
      · unfold spec_AllWords_B6
        simp only [lenI, h1, ltN hi, cond_true, e1, e2, guard_pos (idxN p1), guard_pos (idxN p2), Int.toNat_natCast, Option.bind_some, nextN hi (show n ≤ 4294967296 by omega), g1, g2]
        rw [guard_pos (idxN p3)]
      · intro r c hr hc
        rw [awSet p3, awSet p1, hg r c hr hc]
        simp only [awInj hi hc]
        unfold swM
        by_cases e1 : p = r ∧ i = c
        · obtain ⟨rfl, rfl⟩ := e1
          rw [if_pos ⟨rfl, rfl⟩, if_pos (by omega)]
          by_cases e : p = k
          · subst e; rw [if_pos rfl]
          · rw [if_neg e, if_pos rfl]
        · rw [if_neg e1]
          by_cases e2 : k = r ∧ i = c
          · obtain ⟨rfl, rfl⟩ := e2
            rw [if_pos ⟨rfl, rfl⟩, if_pos (by omega), if_pos rfl]
          · rw [if_neg e2]
            by_cases e3 : c < i
            · rw [if_pos e3, if_pos (show c < i + 1 by omega)]
            · rw [if_neg e3]
              by_cases e4 : c < i + 1
              · rw [if_pos e4, if_neg (by omega), if_neg (by omega)]
              · rw [if_neg e4]
    · right
      have : i = n := by omega
      subst this
      refine ⟨a, ?_, hl, fun r c hr hc => by rw [hg r c hr hc, if_pos hc]⟩
      unfold spec_AllWords_B6
      simp only [lenI, h1, geN (Nat.le_refl _), cond_false]) n ((0 : Nat), A) ⟨0, A, rfl, by omega, by omega, h.la, fun r c hr hc => by rw [if_neg (by omega)]; exact h.ga r c hr hc⟩
  obtain ⟨A', f1, f2, f3⟩ := this
  have b1 : k < B.length := by rw [h.lb]; exact hk
  have b2 : p < (B.set k (B.getD p 0)).length := by rw [List.length_set, h.lb]; exact hp
  refine ⟨A', f1, f2, by simpa using h.lb, f3, fun r hr => ?_⟩
  rw [awSet b2, awSet b1, h.gb p hp, h.gb k hk, h.gb r hr]
  unfold swM
  by_cases e1 : p = r
  · subst e1
    rw [if_pos rfl]
    by_cases e : p = k
    · subst e; rw [if_pos rfl]
    · rw [if_neg e, if_pos rfl]
  · rw [if_neg e1]
    by_cases e2 : k = r
    · subst e2; rw [if_pos rfl, if_pos rfl]
    · rw [if_neg e2, if_neg (by omega), if_neg (by omega)]

theorem awSwapI {n k p : Nat} {rows : List (List Nat)} {M : Nat → Nat → Nat} (hk : k < n) (hp : p < n) (h : IRep n rows M) : IRep n (swapL rows k p []) (swM M k p) := by
  have b1 : k < rows.length := by rw [h.lr]; exact hk
  have b2 : p < (rows.set k (rows.getD p [])).length := by rw [List.length_set, h.lr]; exact hp
  have key : ∀ r, (swapL rows k p []).getD r [] = if r = k then rows.getD p [] else if r = p then rows.getD k [] else rows.getD r [] := by
    intro r
    unfold swapL
    rw [awSet b2, awSet b1]
    by_cases e1 : p = r
    · subst e1
      rw [if_pos rfl]
      by_cases e : p = k
      · subst e; rw [if_pos rfl]
      · rw [if_neg e, if_pos rfl]
    · rw [if_neg e1]
      by_cases e2 : k = r
      · subst e2; rw [if_pos rfl, if_pos rfl]
      · rw [if_neg e2, if_neg (by omega), if_neg (by omega)]
  refine ⟨by rw [swapL_len]; exact h.lr, fun r hr => ?_, fun r c hr hc => ?_⟩
  · rw [key]
    split
    · exact h.lc p hp
    · split
      · exact h.lc k hk
      · exact h.lc r hr
  · rw [key]
    unfold swM
    split
    · exact h.g p c hp hc
    · split
      · exact h.g k c hk hc
      · exact h.g r c hr hc

theorem awAll {n : Nat} {a1 A B : List Nat} {rows : List (List Nat)} {M : Nat → Nat → Nat} {a0 : List (List Nat)} (h0 : a0.length = n) (h1 : a1.length = n) (hn : n ≤ 5) (h : SRep n A B M) (h' : IRep n rows M) :
    ∃ r r', rounds (spec_AllWords_B8 a1) ((0 : Int), A, B) = some r ∧ rounds (impl_solve_mv0_B6 a0) ((0 : Int), rows) = some r' ∧
      ((∃ A B rows M, r = .inl (A, B) ∧ r' = .inl rows ∧ SRep n A B M ∧ IRep n rows M) ∨ (r = .inr () ∧ r' = .inr ())) := by
  refine rounds_rel (fun m s t => ∃ (k : Nat) (A B : List Nat) (rows : List (List Nat)) (M : Nat → Nat → Nat), s = ((k : Int), A, B) ∧ t = ((k : Int), rows) ∧ m = n - k ∧ k ≤ n ∧ SRep n A B M ∧ IRep n rows M) _ ?_ n ((0 : Nat), A, B) ((0 : Nat), rows)
    ⟨0, A, B, rows, M, rfl, rfl, by omega, by omega, h, h'⟩
  rintro m s t ⟨k, A, B, rows, M, rfl, rfl, rfl, hk2, h, h'⟩
  by_cases hk : k < n
  · obtain ⟨p, f1, f2, hp1, hp⟩ := awPivot h0 h1 hn hk h h'
    have e1 := cellN (c := n) (i := p) (k := k) (by omega) (by omega) (by omega)
    have p1 : p * n + k < A.length := by rw [h.la]; exact cell_lt hp hk
    have hs := awSwapI hk hp h'
    have s1 : p < rows.length := by rw [h'.lr]; exact hp
    have s2 : k < rows.length := by rw [h'.lr]; exact hk
    have s3 : k < (swapL rows k p []).length := by rw [hs.lr]; exact hk
    have s4 : k < ((swapL rows k p []).getD k []).length := by rw [hs.lc k hk]; omega
    have v : ((swapL rows k p []).getD k []).getD k 0 = M p k := by rw [hs.g k k hk (by omega)]; unfold swM; rw [if_pos rfl]
    obtain ⟨A', f3, hA⟩ := awSwapS h1 hn hk hp h (A, B)
    obtain ⟨r, r', f4, f5, M', f6, f7⟩ := awElim h0 h1 hn hk hA hs (A, B) rows
    have b1 : k < B.length := by rw [h.lb]; exact hk
    have b2 : p < B.length := by rw [h.lb]; exact hp
    have b3 : p < (B.set k (B.getD p 0)).length := by rw [List.length_set]; exact b2
    have hS : spec_AllWords_B8 a1 ((k : Int), A, B) = bif feq .f32 (M p k) 0 then some (.inr (.inr ())) else some (.inl (((k + 1 : Nat) : Int), r.1, r.2)) := by
      unfold spec_AllWords_B8
      simp only [lenI, h1, ltN hk, cond_true, nextN hk (show n ≤ 4294967296 by omega), f1, Option.bind_some, e1, guard_pos (idxN p1), Int.toNat_natCast, h.ga p k hp hk, f3, guard_pos (idxN b1), guard_pos (idxN b2), f4]
      rw [guard_pos (idxN b3)]
    have hI : impl_solve_mv0_B6 a0 ((k : Int), rows) = bif feq .f32 (M p k) 0 then some (.inr (.inr ())) else some (.inl (((k + 1 : Nat) : Int), r')) := by
      unfold impl_solve_mv0_B6
      simp only [lenI, h0, ltN hk, cond_true, nextN hk (show n ≤ 4294967296 by omega), f2, Option.bind_some, guard_pos (idxN s1), guard_pos (idxN s2), Int.toNat_natCast, guard_pos (idxN s3), guard_pos (idxN s4), v, f5]
    rw [hS, hI]
    cases feq .f32 (M p k) 0 with
    | true => right; exact ⟨_, _, rfl, rfl, Or.inr ⟨rfl, rfl⟩⟩
    | false => left; exact ⟨n - (k + 1), _, _, by omega, rfl, rfl, k + 1, r.1, r.2, r', M', rfl, rfl, rfl, by omega, f6, f7⟩
  · right
    have : k = n := by omega
    subst this
    refine ⟨.inl (A, B), .inl rows, ?_, ?_, Or.inl ⟨A, B, rows, M, rfl, rfl, h, h'⟩⟩
    · unfold spec_AllWords_B8
      simp only [lenI, h1, geN (Nat.le_refl _), cond_false]
    · unfold impl_solve_mv0_B6
      simp only [lenI, h0, geN (Nat.le_refl _), cond_false]

theorem awBack {n : Nat} {a1 A B : List Nat} {rows : List (List Nat)} {M : Nat → Nat → Nat} {a0 : List (List Nat)} (h0 : a0.length = n) (h1 : a1.length = n) (hn : n ≤ 5) (hn1 : 1 ≤ n) (h : SRep n A B M) (h' : IRep n rows M) :
    ∃ x, rounds (spec_AllWords_B3 a1 (A, B)) ((n : Int) - 1, List.replicate n 0) = some x ∧ rounds (impl_solve_mv0_B2 a0 rows) ((n : Int) - 1, List.replicate n 0) = some x ∧ x.length = n := by
  have := rounds_rel (f := spec_AllWords_B3 a1 (A, B)) (g := impl_solve_mv0_B2 a0 rows) (fun m s t => ∃ (j : Nat) (x : List Nat), s = ((j : Int) - 1, x) ∧ t = ((j : Int) - 1, x) ∧ m = j ∧ j ≤ n ∧ x.length = n) (fun r r' => r = r' ∧ r.length = n) (by
    rintro m s t ⟨j, x, rfl, rfl, rfl, hj, hx⟩
    cases m with
    | zero =>
      right
      refine ⟨x, x, ?_, ?_, rfl, hx⟩
      · unfold spec_AllWords_B3
        rfl
      · unfold impl_solve_mv0_B2
        rfl
    | succ r =>
      left
      rw [show ((r + 1 : Nat) : Int) - 1 = (r : Int) from by omega]
      have hr : r < n := by omega
      have b1 : r < B.length := by rw [h.lb]; exact hr
      have s1 : r < rows.length := by rw [h'.lr]; exact hr
      have t1 : n < (rows.getD r []).length := by rw [h'.lc r hr]; omega
      have t2 : r < (rows.getD r []).length := by rw [h'.lc r hr]; omega
      have x1 : r < x.length := by omega
      have e1 := cellN (c := n) (i := r) (k := r) (by omega) (by omega) (by omega)
      have p1 : r * n + r < A.length := by rw [h.la]; exact cell_lt hr hr
      have := rounds_rel (f := spec_AllWords_B2 a1 (A, B) ((r : Int), x)) (g := impl_solve_mv0_B1 a0 rows ((r : Int), x)) (fun m s t => ∃ (c y : Nat), s = (y, (c : Int)) ∧ t = ((c : Int), x.set r y) ∧ m = n - c ∧ r < c ∧ c ≤ n) (fun u v => v = x.set r u) (by
        rintro m s t ⟨c, y, rfl, rfl, rfl, hc1, hc2⟩
        by_cases hc : c < n
        · left
          have e1 := cellN (c := n) (i := r) (k := c) (by omega) (by omega) (by omega)
          have p1 : r * n + c < A.length := by rw [h.la]; exact cell_lt hr hc
          have q1 : c < x.length := by omega
          have q2 : c < (x.set r y).length := by rw [List.length_set]; exact q1
          have q3 : r < (x.set r y).length := by rw [List.length_set]; exact x1
          have t3 : c < (rows.getD r []).length := by rw [h'.lc r hr]; omega
          have v1 : (x.set r y).getD r 0 = y := by rw [awSet x1, if_pos rfl]
          have v2 : (x.set r y).getD c 0 = x.getD c 0 := by rw [awSet x1, if_neg (by omega)]
          refine ⟨n - (c + 1), (fop .sub .f32 y (fop .mul .f32 (M r c) (x.getD c 0)), ((c + 1 : Nat) : Int)), _, by omega, ?_, ?_, c + 1, _, rfl, rfl, rfl, by omega, by omega⟩
          · unfold spec_AllWords_B2
            simp only [lenI, h1, ltN hc, cond_true, e1, guard_pos (idxN p1), guard_pos (idxN q1), Int.toNat_natCast, h.ga r c hr hc, nextN hc (show n ≤ 4294967296 by omega)]
          · unfold impl_solve_mv0_B1
            simp only [lenI, h0, ltN hc, cond_true, guard_pos (idxN q3), guard_pos (idxN t3), guard_pos (idxN q2), Int.toNat_natCast, h'.g r c hr (by omega), v1, v2, nextN hc (show n ≤ 4294967296 by omega), List.set_set]
        · right
          have : c = n := by omega
          subst this
          refine ⟨y, x.set r y, ?_, ?_, rfl⟩
          · unfold spec_AllWords_B2
            simp only [lenI, h1, geN (Nat.le_refl _), cond_false]
          · unfold impl_solve_mv0_B1
            simp only [lenI, h0, geN (Nat.le_refl _), cond_false]) (n - (r + 1)) (M r n, ((r + 1 : Nat) : Int)) (((r + 1 : Nat) : Int), x.set r (M r n)) ⟨r + 1, M r n, rfl, rfl, rfl, by omega, by omega⟩
      obtain ⟨u, _, f1, f2, rfl⟩ := this
      have x2 : r < (x.set r u).length := by rw [List.length_set]; exact x1
      have v1 : (x.set r u).getD r 0 = u := by rw [awSet x1, if_pos rfl]
      have ew : wsub .i64 (r : Int) 1 = (r : Int) - 1 := wsubI (by omega)
      have ge : decide ((r : Int) ≥ 0) = true := decide_eq_true (by omega)
      refine ⟨r, ((r : Int) - 1, x.set r (fop .quo .f32 u (M r r))), ((r : Int) - 1, x.set r (fop .quo .f32 u (M r r))), by omega, ?_, ?_, r, _, rfl, rfl, rfl, by omega, by simpa using hx⟩
      · unfold spec_AllWords_B3
        simp only [lenI, h1, ge, cond_true, guard_pos (idxN b1), Int.toNat_natCast, h.gb r hr, nextN hr (show n ≤ 4294967296 by omega), f1, Option.bind_some, e1, guard_pos (idxN p1), guard_pos (idxN x1), h.ga r r hr hr, ew]
      · unfold impl_solve_mv0_B2
        simp only [lenI, h0, ge, cond_true, guard_pos (idxN s1), guard_pos (idxN t1), guard_pos (idxN t2), guard_pos (idxN x1), Int.toNat_natCast, h'.g r n hr (by omega), nextN hr (show n ≤ 4294967296 by omega), Option.bind_some, f2, guard_pos (idxN x2), v1, h'.g r r hr (by omega), ew, List.set_set]) n ((n : Int) - 1, List.replicate n 0) ((n : Int) - 1, List.replicate n 0) ⟨n, _, rfl, rfl, rfl, by omega, by simp⟩
  obtain ⟨x, _, f1, f2, rfl, f3⟩ := this
  exact ⟨x, f1, f2, f3⟩

end Go.Proofs


/-
  AllWords: the matrix that is laid; AllWords_eq.
-/
namespace Go.Proofs
open Go.Ide Go.IntWalk

def awM (a0 a2 : List Nat) (n : Nat) : Nat → Nat → Nat := fun r c => if c < n then fop .sub .f32 (if r = c then 1065353216 else 0) (a0.getD (r * n + c) 0) else a2.getD r 0

theorem awMod : ∀ n, n < 6 → ∀ r, r < n → ∀ c, c < n → (((r * n + c) % (n + 1) = 0) ↔ r = c) := by decide

theorem awSnoc {α : Type} {xs : List α} {x d : α} {j : Nat} : (xs ++ [x]).getD j d = if j < xs.length then xs.getD j d else if j = xs.length then x else d := by
  simp only [List.getD_eq_getElem?_getD]
  by_cases h : j < xs.length
  · rw [if_pos h, List.getElem?_append_left h]
  · rw [if_neg h, List.getElem?_append_right (by omega)]
    by_cases e : j = xs.length
    · rw [if_pos e]; simp [e]
    · rw [if_neg e]
      rw [List.getElem?_eq_none (by simp; omega)]
      rfl

theorem awLayS {n : Nat} {a0 a1 a2 : List Nat} (hn : n ≤ 5) (h0 : a0.length = n * n) (h1 : a1.length = n) (h2 : a2.length = n) :
    ∃ a, rounds (spec_AllWords_B9 a0 a1) ((0 : Int), ([] : List Nat)) = some a ∧ SRep n a a2 (awM a0 a2 n) := by
  have hnn : n * n ≤ 25 := Nat.mul_le_mul hn hn
  have := rounds_inv (f := spec_AllWords_B9 a0 a1) (fun m s => ∃ (i : Nat) (a : List Nat), s = ((i : Int), a) ∧ m = n * n - i ∧ i ≤ n * n ∧ a.length = i ∧ ∀ j, j < i → a.getD j 0 = fop .sub .f32 (if j % (n + 1) = 0 then 1065353216 else 0) (a0.getD j 0))
    (fun a => a.length = n * n ∧ ∀ j, j < n * n → a.getD j 0 = fop .sub .f32 (if j % (n + 1) = 0 then 1065353216 else 0) (a0.getD j 0)) (by
    rintro m s ⟨i, a, rfl, rfl, hi2, hl, hg⟩
    by_cases hi : i < n * n
    · left
      have e1 : wadd .i64 (n : Int) 1 = ((n + 1 : Nat) : Int) := waddI (by omega)
      have e2 : (Int.tmod (i : Int) ((n + 1 : Nat) : Int)) = ((i % (n + 1) : Nat) : Int) := rfl
      have p1 : i < a0.length := by omega
      have e3 : ∀ m : Nat, (show Option Nat from bif ((m : Int) == 0) then some 1065353216 else some 0) = some (if m = 0 then 1065353216 else 0) := by
        intro m
        by_cases e : m = 0
        · subst e; rfl
        · rw [if_neg e, show ((m : Int) == 0) = false from beq_eq_false_iff_ne.2 (by omega)]; rfl
      refine ⟨n * n - (i + 1), (((i + 1 : Nat) : Int), a ++ [fop .sub .f32 (if i % (n + 1) = 0 then 1065353216 else 0) (a0.getD i 0)]), by omega, ?_, i + 1, _, rfl, rfl, by omega, by simpa using hl, fun j hj => ?_⟩
      · unfold spec_AllWords_B9
        simp only [lenI, h0, h1, ltN hi, cond_true, e1, e2]
        rw [guard_pos (show ((n + 1 : Nat) : Int) ≠ 0 by omega)]
        have a3 := e3 (i % (n + 1))
        simp only [] at a3
        simp only [a3, Option.bind_some, guard_pos (idxN hi), Int.toNat_natCast, nextN hi (show n * n ≤ 4294967296 by omega)]
        rw [guard_pos (by simp only [List.length_singleton]; unfold appMax; omega)]
      · rw [awSnoc, hl]
        by_cases e : j < i
        · rw [if_pos e]; exact hg j e
        · rw [if_neg e, if_pos (by omega), show j = i by omega]
    · right
      have : i = n * n := by omega
      subst this
      refine ⟨a, ?_, hl, hg⟩
      unfold spec_AllWords_B9
      simp only [lenI, h0, geN (Nat.le_refl _), cond_false]) (n * n) ((0 : Nat), []) ⟨0, [], rfl, by omega, by omega, rfl, fun j hj => by omega⟩
  obtain ⟨a, f1, f2, f3⟩ := this
  refine ⟨a, f1, f2, h2, fun r c hr hc => ?_, fun r hr => ?_⟩
  · rw [f3 _ (cell_lt hr hc)]
    unfold awM
    rw [if_pos hc]
    have := awMod n (by omega) r hr c hc
    by_cases e : r = c
    · rw [if_pos (this.2 e), if_pos e]
    · rw [if_neg (fun x => e (this.1 x)), if_neg e]
  · unfold awM
    rw [if_neg (by omega)]

theorem awRep (n : Nat) (i j : Nat) (hi : i < n) (hj : j < n) : ((List.replicate n 0).set i (1065353216 : Nat)).getD j 0 = if i = j then 1065353216 else 0 := by
  rw [awSet (by simpa using hi)]
  by_cases e : i = j
  · rw [if_pos e, if_pos e]
  · rw [if_neg e, if_neg e, List.getD_eq_getElem?_getD, List.getElem?_replicate, if_pos hj]; rfl

theorem awRow {n i : Nat} {a0 a1 : List Nat} (hn : n ≤ 5) (h0 : a0.length = n * n) (h1 : a1.length = n) (hi : i < n) (x5 : List (List Nat)) :
    ∃ row, rounds (impl_AllWords_B1 a0 a1 ((i : Int), x5)) ((0 : Int), (List.replicate n 0).set i 1065353216) = some row ∧ row.length = n ∧ ∀ c, c < n → row.getD c 0 = fop .sub .f32 (if i = c then 1065353216 else 0) (a0.getD (i * n + c) 0) := by
  refine rounds_inv (fun m s => ∃ (c : Nat) (a : List Nat), s = ((c : Int), a) ∧ m = n - c ∧ c ≤ n ∧ a.length = n ∧ ∀ j, j < n → a.getD j 0 = if j < c then fop .sub .f32 (if i = j then 1065353216 else 0) (a0.getD (i * n + j) 0) else if i = j then 1065353216 else 0) _ ?_ n ((0 : Nat), _)
    ⟨0, _, rfl, by omega, by omega, by simp, fun j hj => by rw [if_neg (by omega)]; exact awRep n i j hi hj⟩
  rintro m s ⟨c, a, rfl, rfl, hc2, hl, hg⟩
  by_cases hc : c < n
  · left
    have e1 := cellN (c := n) (i := i) (k := c) (by omega) (by omega) (by omega)
    have p1 : i * n + c < a0.length := by rw [h0]; exact cell_lt hi hc
    have p2 : c < a.length := by omega
    have v : a.getD c 0 = if i = c then 1065353216 else 0 := by rw [hg c hc, if_neg (by omega)]
    refine ⟨n - (c + 1), (((c + 1 : Nat) : Int), a.set c (fop .sub .f32 (if i = c then 1065353216 else 0) (a0.getD (i * n + c) 0))), by omega, ?_, c + 1, _, rfl, rfl, by omega, by simpa using hl, fun j hj => ?_⟩
    · unfold impl_AllWords_B1
      simp only [lenI, h1, ltN hc, cond_true, e1, guard_pos (idxN p1), guard_pos (idxN p2), Int.toNat_natCast, v, nextN hc (show n ≤ 4294967296 by omega)]
    · rw [awSet p2]
      by_cases e : c = j
      · subst e
        rw [if_pos rfl, if_pos (show c < c + 1 by omega)]
      · rw [if_neg e, hg j hj]
        by_cases e2 : j < c
        · rw [if_pos e2, if_pos (show j < c + 1 by omega)]
        · rw [if_neg e2, if_neg (show ¬ j < c + 1 by omega)]
  · right
    have : c = n := by omega
    subst this
    refine ⟨a, ?_, hl, fun j hj => by rw [hg j hj, if_pos hj]⟩
    unfold impl_AllWords_B1
    simp only [lenI, h1, geN (Nat.le_refl _), cond_false]

theorem awLayI {n : Nat} {a0 a1 a2 : List Nat} (hn : n ≤ 5) (h0 : a0.length = n * n) (h1 : a1.length = n) (h2 : a2.length = n) :
    ∃ rows, rounds (impl_AllWords_B2 a0 a1 a2) ((0 : Int), ([] : List (List Nat))) = some rows ∧ IRep n rows (awM a0 a2 n) := by
  have := rounds_inv (f := impl_AllWords_B2 a0 a1 a2) (fun m s => ∃ (i : Nat) (a : List (List Nat)), s = ((i : Int), a) ∧ m = n - i ∧ i ≤ n ∧ a.length = i ∧ ∀ r, r < i → (a.getD r []).length = n + 1 ∧ ∀ c, c ≤ n → (a.getD r []).getD c 0 = awM a0 a2 n r c)
    (fun rows => IRep n rows (awM a0 a2 n)) (by
    rintro m s ⟨i, a, rfl, rfl, hi2, hl, hg⟩
    by_cases hi : i < n
    · left
      obtain ⟨row, f1, f2, f3⟩ := awRow hn h0 h1 hi a
      have e1 : wadd .i64 (n : Int) 1 = ((n + 1 : Nat) : Int) := waddI (by omega)
      have p1 : i < (List.replicate n (0 : Nat)).length := by simpa using hi
      have p2 : i < a2.length := by omega
      refine ⟨n - (i + 1), (((i + 1 : Nat) : Int), a ++ [row ++ [a2.getD i 0]]), by omega, ?_, i + 1, _, rfl, rfl, by omega, by simpa using hl, fun r hr => ?_⟩
      · unfold impl_AllWords_B2
        simp only [lenI, h1, ltN hi, cond_true, e1, Int.toNat_natCast]
        rw [guard_pos (show (0 : Int) ≤ (n : Int) ∧ (n : Int) ≤ ((n + 1 : Nat) : Int) ∧ ((n + 1 : Nat) : Int) ≤ 4294967296 by omega), guard_pos (idxN p1)]
        simp only [Option.bind_some, f1, guard_pos (idxN p2), nextN hi (show n ≤ 4294967296 by omega)]
        rw [guard_pos (by simp only [List.length_singleton]; unfold appMax; omega), guard_pos (by simp only [List.length_singleton]; unfold appMax; omega)]
      · rw [awSnoc, hl]
        by_cases e : r < i
        · rw [if_pos e]; exact hg r e
        · rw [if_neg e, if_pos (by omega)]
          have : r = i := by omega
          subst this
          refine ⟨by simp [f2], fun c hc => ?_⟩
          rw [awSnoc, f2]
          unfold awM
          by_cases e : c < n
          · rw [if_pos e, if_pos e]; exact f3 c e
          · rw [if_neg e, if_neg e, if_pos (by omega)]
    · right
      have : i = n := by omega
      subst this
      refine ⟨a, ?_, hl, fun r hr => (hg r hr).1, fun r c hr hc => (hg r hr).2 c hc⟩
      unfold impl_AllWords_B2
      simp only [lenI, h1, geN (Nat.le_refl _), cond_false]) n ((0 : Nat), []) ⟨0, [], rfl, by omega, by omega, rfl, fun r hr => by omega⟩
  exact this

def awFin (x : Nat) : Bool := feq .f32 (fop .sub .f32 x x) 0

theorem awFinS {xs : List Nat} (h : xs.length ≤ 4294967296) : spec_l02Finite xs = some (xs.all awFin) := by
  have := rounds_inv (f := spec_l02Finite_B1 xs) (fun m s => ∃ i : Nat, s = (i : Int) ∧ m = xs.length - i ∧ i ≤ xs.length ∧ (xs.take i).all awFin = true) (fun r => r = if xs.all awFin = true then .inl () else .inr ()) (by
    rintro m s ⟨i, rfl, rfl, hi2, hg⟩
    by_cases hi : i < xs.length
    · have hx : xs.getD i 0 ∈ xs := by rw [List.getD_eq_getElem?_getD, List.getElem?_eq_getElem hi]; exact List.getElem_mem _
      have hS : spec_l02Finite_B1 xs (i : Int) = bif awFin (xs.getD i 0) then some (.inl ((i + 1 : Nat) : Int)) else some (.inr (.inr ())) := by
        unfold spec_l02Finite_B1 spec_l01Finite
        simp only [lenI, ltN hi, cond_true, guard_pos (idxN hi), Int.toNat_natCast, Option.bind_some, nextN hi h]
        show _ = bif feq .f32 (fop .sub .f32 (xs.getD i 0) (xs.getD i 0)) 0 then _ else _
        cases feq .f32 (fop .sub .f32 (xs.getD i 0) (xs.getD i 0)) 0 <;> rfl
      rw [hS]
      cases hf : awFin (xs.getD i 0) with
      | true =>
        left
        refine ⟨xs.length - (i + 1), _, by omega, rfl, i + 1, rfl, rfl, by omega, ?_⟩
        rw [List.take_add_one, List.all_append, hg]
        rw [List.getD_eq_getElem?_getD, List.getElem?_eq_getElem hi] at hf
        simp only [List.getElem?_eq_getElem hi, Option.toList, List.all_cons, List.all_nil, Bool.and_true, Bool.true_and]
        exact hf
      | false =>
        right
        refine ⟨_, rfl, ?_⟩
        rw [if_neg]
        intro e
        rw [List.all_eq_true.1 e _ hx] at hf
        exact absurd hf (by simp)
    · right
      have : i = xs.length := by omega
      subst this
      rw [List.take_length] at hg
      refine ⟨.inl (), ?_, by rw [if_pos hg]⟩
      unfold spec_l02Finite_B1
      simp only [lenI, geN (Nat.le_refl _), cond_false]) xs.length ((0 : Nat) : Int) ⟨0, rfl, by omega, by omega, by simp⟩
  obtain ⟨r, f1, rfl⟩ := this
  unfold spec_l02Finite
  rw [show (0 : Int) = ((0 : Nat) : Int) from rfl, f1]
  cases xs.all awFin <;> rfl

theorem awFinI {xs : List Nat} (h : xs.length ≤ 4294967296) : impl_areFinite xs = some (xs.all awFin) := by
  have := rounds_inv (f := slices_IndexFunc___float32_float32_fn1_impl_areFinite_1_B1 xs) (fun m s => ∃ i : Nat, s = (i : Int) ∧ m = xs.length - i ∧ i ≤ xs.length ∧ (xs.take i).all awFin = true)
    (fun r => if xs.all awFin = true then r = .inl () else ∃ j : Nat, r = .inr (j : Int)) (by
    rintro m s ⟨i, rfl, rfl, hi2, hg⟩
    by_cases hi : i < xs.length
    · have hx : xs.getD i 0 ∈ xs := by rw [List.getD_eq_getElem?_getD, List.getElem?_eq_getElem hi]; exact List.getElem_mem _
      have hS : slices_IndexFunc___float32_float32_fn1_impl_areFinite_1_B1 xs (i : Int) = bif awFin (xs.getD i 0) then some (.inl ((i + 1 : Nat) : Int)) else some (.inr (.inr (i : Int))) := by
        unfold slices_IndexFunc___float32_float32_fn1_impl_areFinite_1_B1 impl_areFinite_1 impl_IsFinite
        simp only [lenI, ltN hi, cond_true, guard_pos (idxN hi), Int.toNat_natCast, Option.bind_some, nextN hi h]
        show _ = bif feq .f32 (fop .sub .f32 (xs.getD i 0) (xs.getD i 0)) 0 then _ else _
        cases feq .f32 (fop .sub .f32 (xs.getD i 0) (xs.getD i 0)) 0 <;> rfl
      rw [hS]
      cases hf : awFin (xs.getD i 0) with
      | true =>
        left
        refine ⟨xs.length - (i + 1), _, by omega, rfl, i + 1, rfl, rfl, by omega, ?_⟩
        rw [List.take_add_one, List.all_append, hg]
        rw [List.getD_eq_getElem?_getD, List.getElem?_eq_getElem hi] at hf
        simp only [List.getElem?_eq_getElem hi, Option.toList, List.all_cons, List.all_nil, Bool.and_true, Bool.true_and]
        exact hf
      | false =>
        right
        refine ⟨_, rfl, ?_⟩
        rw [if_neg]
        · exact ⟨i, rfl⟩
        · intro e
          rw [List.all_eq_true.1 e _ hx] at hf
          exact absurd hf (by simp)
    · right
      have : i = xs.length := by omega
      subst this
      rw [List.take_length] at hg
      refine ⟨.inl (), ?_, by rw [if_pos hg]⟩
      unfold slices_IndexFunc___float32_float32_fn1_impl_areFinite_1_B1
      simp only [lenI, geN (Nat.le_refl _), cond_false]) xs.length ((0 : Nat) : Int) ⟨0, rfl, by omega, by omega, by simp⟩
  obtain ⟨r, f1, hr⟩ := this
  unfold impl_areFinite slices_ContainsFunc___float32_float32_fn1_impl_areFinite_1 slices_IndexFunc___float32_float32_fn1_impl_areFinite_1
  rw [show (0 : Int) = ((0 : Nat) : Int) from rfl, f1]
  cases ha : xs.all awFin with
  | true =>
    rw [if_pos ha] at hr
    subst hr
    rfl
  | false =>
    rw [if_neg (by rw [ha]; simp)] at hr
    obtain ⟨j, rfl⟩ := hr
    simp only [Option.bind_some, ge_iff_le]
    rw [show decide (((0 : Nat) : Int) ≤ (j : Int)) = true from decide_eq_true (by omega)]
    rfl

theorem awGrow {n : Nat} (h : n ≤ 4294967296) : slices_Grow___float32_float32_nl0 (n : Int) = some [] := by
  unfold slices_Grow___float32_float32_nl0
  have e : wsub .i64 (n : Int) (wsub .i64 0 0) = (n : Int) := by rw [show wsub .i64 0 0 = 0 from rfl, wsubI (by omega)]; omega
  rw [e]
  simp only [show decide ((n : Int) < 0) = false from decide_eq_false (by omega), cond_false]
  cases hd : decide ((n : Int) > 0) with
  | false => rfl
  | true =>
    simp only [cond_true]
    rw [guard_pos ⟨by omega, by omega⟩, guard_pos ⟨by omega, by simp only [lenI]; omega⟩]
    rfl

theorem awCat {a b c : List Nat} (ha : a.length ≤ 25) (hb : b.length ≤ 25) (hc : c.length ≤ 25) : slices_Concat___float32_float32 [a, b, c] = some (a ++ b ++ c) := by
  have w1 : ∀ x y : Nat, x ≤ 1000 → y ≤ 1000 → wadd .i64 (x : Int) (y : Int) = ((x + y : Nat) : Int) := fun x y hx hy => by rw [waddI (by omega)]; omega
  have ng : ∀ x : Nat, decide ((x : Int) < 0) = false := fun x => decide_eq_false (by omega)
  have h2 : rounds (slices_Concat___float32_float32_B2 [a, b, c]) ((0 : Int), (0 : Int)) = some (((a.length + b.length + c.length : Nat)) : Int) := by
    have s1 : slices_Concat___float32_float32_B2 [a, b, c] (((0 : Nat) : Int), ((0 : Nat) : Int)) = some (.inl (((a.length : Nat) : Int), ((1 : Nat) : Int))) := by
      unfold slices_Concat___float32_float32_B2
      simp only [show decide (((0 : Nat) : Int) < lenI [a, b, c]) = true from rfl, cond_true, guard_pos (show (0 : Int) ≤ ((0 : Nat) : Int) ∧ ((0 : Nat) : Int) < lenI [a, b, c] from ⟨by decide, by simp only [lenI]; simp⟩)]
      show (bif decide (wadd .i64 ((0 : Nat) : Int) ((a.length : Nat) : Int) < 0) then none else some (Sum.inl (wadd .i64 ((0 : Nat) : Int) ((a.length : Nat) : Int), _))) = _
      rw [w1 0 a.length (by omega) (by omega), ng, Nat.zero_add]
      rfl
    have s2 : slices_Concat___float32_float32_B2 [a, b, c] (((a.length : Nat) : Int), ((1 : Nat) : Int)) = some (.inl (((a.length + b.length : Nat) : Int), ((2 : Nat) : Int))) := by
      unfold slices_Concat___float32_float32_B2
      simp only [show decide (((1 : Nat) : Int) < lenI [a, b, c]) = true from rfl, cond_true, guard_pos (show (0 : Int) ≤ ((1 : Nat) : Int) ∧ ((1 : Nat) : Int) < lenI [a, b, c] from ⟨by decide, by simp only [lenI]; simp⟩)]
      show (bif decide (wadd .i64 ((a.length : Nat) : Int) ((b.length : Nat) : Int) < 0) then none else some (Sum.inl (wadd .i64 ((a.length : Nat) : Int) ((b.length : Nat) : Int), _))) = _
      rw [w1 a.length b.length (by omega) (by omega), ng]
      rfl
    have s3 : slices_Concat___float32_float32_B2 [a, b, c] (((a.length + b.length : Nat) : Int), ((2 : Nat) : Int)) = some (.inl (((a.length + b.length + c.length : Nat) : Int), ((3 : Nat) : Int))) := by
      unfold slices_Concat___float32_float32_B2
      simp only [show decide (((2 : Nat) : Int) < lenI [a, b, c]) = true from rfl, cond_true, guard_pos (show (0 : Int) ≤ ((2 : Nat) : Int) ∧ ((2 : Nat) : Int) < lenI [a, b, c] from ⟨by decide, by simp only [lenI]; simp⟩)]
      show (bif decide (wadd .i64 ((a.length + b.length : Nat) : Int) ((c.length : Nat) : Int) < 0) then none else some (Sum.inl (wadd .i64 ((a.length + b.length : Nat) : Int) ((c.length : Nat) : Int), _))) = _
      rw [w1 _ c.length (by omega) (by omega), ng]
      rfl
    have s4 : slices_Concat___float32_float32_B2 [a, b, c] (((a.length + b.length + c.length : Nat) : Int), ((3 : Nat) : Int)) = some (.inr ((a.length + b.length + c.length : Nat) : Int)) := rfl
    rw [show (0 : Int) = ((0 : Nat) : Int) from rfl, rounds_eq, s1]
    simp only
    rw [rounds_eq, s2]
    simp only
    rw [rounds_eq, s3]
    simp only
    rw [rounds_eq, s4]
  have h1 : rounds (slices_Concat___float32_float32_B1 [a, b, c]) ((0 : Int), ([] : List Nat)) = some (a ++ b ++ c) := by
    have s1 : slices_Concat___float32_float32_B1 [a, b, c] ((0 : Int), []) = some (.inl ((1 : Int), a)) := by
      unfold slices_Concat___float32_float32_B1
      simp only [show decide ((0 : Int) < lenI [a, b, c]) = true from rfl, cond_true, guard_pos (show (0 : Int) ≤ (0 : Int) ∧ (0 : Int) < lenI [a, b, c] from ⟨by decide, by simp only [lenI]; simp⟩)]
      rw [guard_pos (by show 0 + a.length ≤ appMax; unfold appMax; omega)]
      rfl
    have s2 : slices_Concat___float32_float32_B1 [a, b, c] ((1 : Int), a) = some (.inl ((2 : Int), a ++ b)) := by
      unfold slices_Concat___float32_float32_B1
      simp only [show decide ((1 : Int) < lenI [a, b, c]) = true from rfl, cond_true, guard_pos (show (0 : Int) ≤ (1 : Int) ∧ (1 : Int) < lenI [a, b, c] from ⟨by decide, by simp only [lenI]; simp⟩)]
      rw [guard_pos (by show a.length + b.length ≤ appMax; unfold appMax; omega)]
      rfl
    have s3 : slices_Concat___float32_float32_B1 [a, b, c] ((2 : Int), a ++ b) = some (.inl ((3 : Int), a ++ b ++ c)) := by
      unfold slices_Concat___float32_float32_B1
      simp only [show decide ((2 : Int) < lenI [a, b, c]) = true from rfl, cond_true, guard_pos (show (0 : Int) ≤ (2 : Int) ∧ (2 : Int) < lenI [a, b, c] from ⟨by decide, by simp only [lenI]; simp⟩)]
      rw [guard_pos (by show (a ++ b).length + c.length ≤ appMax; rw [List.length_append]; unfold appMax; omega)]
      rfl
    have s4 : slices_Concat___float32_float32_B1 [a, b, c] ((3 : Int), a ++ b ++ c) = some (.inr (a ++ b ++ c)) := rfl
    rw [rounds_eq, s1]
    simp only
    rw [rounds_eq, s2]
    simp only
    rw [rounds_eq, s3]
    simp only
    rw [rounds_eq, s4]
  unfold slices_Concat___float32_float32
  rw [h2]
  simp only [Option.bind_some]
  rw [awGrow (by omega)]
  simp only [Option.bind_some, h1]

theorem awDot {n : Nat} {a1 x : List Nat} (hn : n ≤ 5) (h1 : a1.length = n) (hx : x.length = n) : ∃ y, rounds (impl_DotNumbers_B1 a1 x) ((0 : Nat), (0 : Int)) = some y := by
  have := rounds_inv (f := impl_DotNumbers_B1 a1 x) (fun m s => ∃ i y : Nat, s = (y, (i : Int)) ∧ m = n - i ∧ i ≤ n) (fun _ => True) (by
    rintro m s ⟨i, y, rfl, rfl, hi2⟩
    by_cases hi : i < n
    · left
      have p1 : i < a1.length := by omega
      have p2 : i < x.length := by omega
      refine ⟨n - (i + 1), (fop .add .f32 y (fop .mul .f32 (a1.getD i 0) (x.getD i 0)), ((i + 1 : Nat) : Int)), by omega, ?_, i + 1, _, rfl, rfl, by omega⟩
      unfold impl_DotNumbers_B1
      simp only [lenI, ltN p1, cond_true, guard_pos (idxN p1), guard_pos (idxN p2), Int.toNat_natCast, nextN hi (show n ≤ 4294967296 by omega)]
    · right
      refine ⟨y, ?_, trivial⟩
      unfold impl_DotNumbers_B1
      simp only [lenI, geN (show a1.length ≤ i by omega), cond_false]) n ((0 : Nat), ((0 : Nat) : Int)) ⟨0, 0, rfl, by omega, by omega⟩
  obtain ⟨y, f, _⟩ := this
  exact ⟨y, f⟩

theorem awCore {n : Nat} {a0 a1 a2 : List Nat} (hn1 : 1 ≤ n) (hn : n ≤ 5) (h0 : a0.length = n * n) (h1 : a1.length = n) (h2 : a2.length = n) :
    ∃ r, ((rounds (spec_AllWords_B9 a0 a1) ((0 : Int), ([] : List Nat))).bind fun r7 =>
      guardP (0 + List.length a2 ≤ appMax) (
      (rounds (spec_AllWords_B8 a1) ((0 : Int), r7, a2)).bind fun r10 => match r10 with
        | .inl r11 =>
          guardP ((0 : Int) ≤ (lenI a1) ∧ (lenI a1) ≤ 4294967296) (
            (rounds (spec_AllWords_B3 a1 r11) ((wsub .i64 (lenI a1) (1 : Int)), (List.replicate (Int.toNat (lenI a1)) (0 : Nat)))).bind fun r15 =>
            (rounds (spec_AllWords_B1 a1 r15) ((0 : Nat), (0 : Int))).bind fun r18 =>
            (spec_l02Number r18).bind fun y19 =>
            some (y19.1, y19.2))
        | .inr r46 =>
          some ((0 : Nat), false))) = some r ∧
      ((rounds (impl_AllWords_B2 a0 a1 a2) ((0 : Int), ([] : List (List Nat)))).bind fun r7 =>
    (impl_solve_mv0 r7).bind fun y8 =>
    bif (!y8.2) then
      some ((0 : Nat), false)
    else
      (impl_DotNumbers a1 y8.1).bind fun y11 =>
      (impl_finite y11.1).bind fun y13 =>
      some (y13.1, y13.2)) = some r := by
  obtain ⟨A, f1, hS⟩ := awLayS hn h0 h1 h2
  obtain ⟨rows, f2, hI⟩ := awLayI hn h0 h1 h2
  rw [f1, f2]
  simp only [Option.bind_some]
  rw [guard_pos (by unfold appMax; omega)]
  obtain ⟨r, r', f3, f4, h⟩ := awAll hI.lr h1 hn hS hI
  unfold impl_solve_mv0
  rw [f3, f4]
  have ew : wsub .i64 (n : Int) 1 = (n : Int) - 1 := wsubI (by omega)
  rcases h with ⟨A', B', rows', M', rfl, rfl, hS', hI'⟩ | ⟨rfl, rfl⟩
  · obtain ⟨x, f5, f6, hx⟩ := awBack hI.lr h1 hn hn1 hS' hI'
    obtain ⟨y, f7⟩ := awDot hn h1 hx
    have f8 : rounds (spec_AllWords_B1 a1 x) ((0 : Nat), (0 : Int)) = some y := f7
    simp only [Option.bind_some, lenI, h1, hI.lr, ew, Int.toNat_natCast]
    rw [guard_pos (show (0 : Int) ≤ (n : Int) ∧ (n : Int) ≤ 4294967296 by omega), guard_pos (show (0 : Int) ≤ (n : Int) ∧ (n : Int) ≤ 4294967296 by omega), f5, f6]
    simp only [Option.bind_some, f8, Bool.not_true, cond_false]
    unfold impl_DotNumbers
    simp only [lenI, h1, hx, show decide ((n : Int) > 256) = false from decide_eq_false (by omega), cond_false, bne_self_eq_false, Option.bind_some, f7]
    unfold spec_l02Number spec_l01Finite impl_finite impl_IsFinite
    simp only [Option.bind_some]
    cases feq .f32 (fop .sub .f32 y y) 0
    · exact ⟨_, rfl, rfl⟩
    · exact ⟨_, rfl, rfl⟩
  · exact ⟨_, rfl, rfl⟩

theorem AllWords_eq {x0_0 x1_0 x2_0 : List Nat} (g1 : x0_0.length ≤ 1048576) (g2 : x1_0.length ≤ 1048576) (g3 : x2_0.length ≤ 1048576) :
    ∃ r, spec_AllWords x0_0 x1_0 x2_0 = some r ∧ impl_AllWords x0_0 x1_0 x2_0 = some r := by
  unfold spec_AllWords impl_AllWords
  cases c1 : decide (lenI x1_0 < 1) with
  | true => exact ⟨_, rfl, rfl⟩
  | false =>
  cases c2 : decide (lenI x1_0 > 5) with
  | true => exact ⟨_, rfl, rfl⟩
  | false =>
  cases c3 : (lenI x0_0 != wmul .i64 (lenI x1_0) (lenI x1_0)) with
  | true => exact ⟨_, rfl, rfl⟩
  | false =>
  cases c4 : (lenI x2_0 != lenI x1_0) with
  | true => exact ⟨_, rfl, rfl⟩
  | false =>
  have d1 := of_decide_eq_false c1
  have d2 := of_decide_eq_false c2
  have d3 := bne_eq_false_iff_eq.1 c3
  have d4 := bne_eq_false_iff_eq.1 c4
  simp only [lenI] at d1 d2 d3 d4
  have hn1 : 1 ≤ x1_0.length := by omega
  have hn : x1_0.length ≤ 5 := by omega
  have hnn : x1_0.length * x1_0.length ≤ 25 := Nat.mul_le_mul hn hn
  rw [wmulI (by rw [← Int.natCast_mul]; omega), ← Int.natCast_mul] at d3
  have h0 : x0_0.length = x1_0.length * x1_0.length := by omega
  have h2 : x2_0.length = x1_0.length := by omega
  simp only [cond_false]
  rw [awCat (by omega) (by omega) (by omega), awFinS (show x0_0.length ≤ 4294967296 by omega), awFinS (show x1_0.length ≤ 4294967296 by omega), awFinS (show x2_0.length ≤ 4294967296 by omega)]
  simp only [Option.bind_some]
  rw [awFinI (by simp only [List.length_append]; omega)]
  simp only [Option.bind_some, List.all_append]
  obtain ⟨r, e1, e2⟩ := awCore hn1 hn h0 rfl h2
  cases x0_0.all awFin with
  | false => exact ⟨_, rfl, rfl⟩
  | true =>
  cases x1_0.all awFin with
  | false => exact ⟨_, rfl, rfl⟩
  | true =>
  cases x2_0.all awFin with
  | false => exact ⟨_, rfl, rfl⟩
  | true => exact ⟨r, e1, e2⟩

end Go.Proofs


namespace Go.Proofs
open Go.Ide Go.IntWalk

theorem AllWords_law (x0 : List Nat) (x1 : List Nat) (x2 : List Nat) (w0 : WfD tLF x0) (w1 : WfD tLF x1) (w2 : WfD tLF x2) : laws_FnExactAllWords x0 x1 x2 = some true := by
  obtain ⟨x0_0, rfl⟩ : ∃ y, y = x0 := ⟨_, rfl⟩
  have hx0_0 : x0_0.length ≤ 9223372036854775807 := Nat.le_trans (w0.1) (by decide)
  obtain ⟨x1_0, rfl⟩ : ∃ y, y = x1 := ⟨_, rfl⟩
  have hx1_0 : x1_0.length ≤ 9223372036854775807 := Nat.le_trans (w1.1) (by decide)
  obtain ⟨x2_0, rfl⟩ : ∃ y, y = x2 := ⟨_, rfl⟩
  have hx2_0 : x2_0.length ≤ 9223372036854775807 := Nat.le_trans (w2.1) (by decide)
  unfold laws_FnExactAllWords
  by_cases c1 : lenI x0_0 > (1048576 : Int)
  · simp only [c1, decide_true, cond_true]
  · simp only [c1, decide_false, cond_false]
    have ox0_0 : x0_0.length ≤ 1048576 := by simp only [lenI] at c1; omega
    by_cases c2 : lenI x1_0 > (1048576 : Int)
    · simp only [c2, decide_true, cond_true]
    · simp only [c2, decide_false, cond_false]
      have ox1_0 : x1_0.length ≤ 1048576 := by simp only [lenI] at c2; omega
      by_cases c3 : lenI x2_0 > (1048576 : Int)
      · simp only [c3, decide_true, cond_true]
      · simp only [c3, decide_false, cond_false]
        have ox2_0 : x2_0.length ≤ 1048576 := by simp only [lenI] at c3; omega
        obtain ⟨⟨r0_0, r1_0⟩, k1, k2⟩ := AllWords_eq (x0_0 := x0_0) (x1_0 := x1_0) (x2_0 := x2_0) ox0_0 ox1_0 ox2_0
        simp only [k1,
      k2,
      Option.bind_some,
      Bool.not_true,
      cond_false,
      bne_self_eq_false,
      cond_true,
      sameFloat_ok,
      toFloat32S_ok (xs := x0_0) ox0_0,
      eqFloat32S_ok (xs := x0_0) ox0_0,
      toFloat32S_ok (xs := x1_0) ox1_0,
      eqFloat32S_ok (xs := x1_0) ox1_0,
      toFloat32S_ok (xs := x2_0) ox2_0,
      eqFloat32S_ok (xs := x2_0) ox2_0]

end Go.Proofs
