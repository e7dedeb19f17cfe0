import Derived.Test.YtapgmbilojbacaaLoopsGenB
set_option linter.unusedVariables false
set_option linter.unusedSimpArgs false
set_option linter.unusedSectionVars false

namespace Go.Proofs
open Go.Ide Go.IntWalk


end Go.Proofs


namespace Go.Proofs
open Go.Ide Go.IntWalk

theorem in64 (a b c : Int) : spec_l00In a b c = some (decide (a ≥ b) && decide (a ≤ c)) := by
  unfold spec_l00In
  cases h : decide (a ≥ b) <;> simp
theorem within64 (a b c : Int) : impl_within a b c = some (decide (a ≥ b) && decide (a ≤ c)) := by
  unfold impl_within
  cases h : decide (a ≥ b) <;> simp

def allIn (xs : List Int) (b c : Int) : Bool := xs.all fun x => decide (x ≥ b) && decide (x ≤ c)

theorem allIn_iff {xs : List Int} {b c : Int} : allIn xs b c = true ↔ ∀ i, i < xs.length → b ≤ xs.getD i 0 ∧ xs.getD i 0 ≤ c := by
  unfold allIn
  rw [List.all_eq_true]
  constructor
  · intro h i hi
    have := h xs[i] (List.getElem_mem hi)
    simp only [Bool.and_eq_true, decide_eq_true_eq] at this
    rw [List.getD_eq_getElem?_getD, List.getElem?_eq_getElem hi]
    exact ⟨this.1, this.2⟩
  · intro h x hx
    obtain ⟨i, hi, rfl⟩ := List.getElem_of_mem hx
    have := h i hi
    rw [List.getD_eq_getElem?_getD, List.getElem?_eq_getElem hi] at this
    simp only [Bool.and_eq_true, decide_eq_true_eq]
    exact ⟨this.1, this.2⟩

theorem allN_in (xs : List Int) (b c : Int) : allN (fun i => decide (xs.getD i 0 ≥ b) && decide (xs.getD i 0 ≤ c)) xs.length 0 = allIn xs b c := by
  rw [Bool.eq_iff_iff, allN_iff, allIn_iff]
  constructor
  · intro h i hi
    have := h i (by omega) (by omega)
    simp only [Bool.and_eq_true, decide_eq_true_eq] at this
    exact ⟨this.1, this.2⟩
  · intro h i _ hi
    have := h i (by omega)
    simp only [Bool.and_eq_true, decide_eq_true_eq]
    exact ⟨this.1, this.2⟩

theorem areWithin64 {xs : List Int} {b c : Int} (h : xs.length ≤ 4294967296) : impl_areWithin xs b c = some (allIn xs b c) := by
  unfold impl_areWithin
  have := rounds_all (f := impl_areWithin_B1 xs b c) (fun i => ((i : Nat) : Int)) (fun i => decide (xs.getD i 0 ≥ b) && decide (xs.getD i 0 ≤ c)) (Sum.inl ()) (Sum.inr ()) (n := xs.length) (fun i hi => by
    unfold impl_areWithin_B1
    simp only [ltN hi, cond_true, guard_pos (idxN hi), Int.toNat_natCast, within64, Option.bind_some, nextN hi h]
    cases (decide (xs.getD i 0 ≥ b) && decide (xs.getD i 0 ≤ c)) <;> rfl) (by
    unfold impl_areWithin_B1
    simp only [geN (Nat.le_refl _), cond_false]) xs.length 0 (by omega)
  rw [allN_in] at this
  simp only [Int.natCast_zero] at this
  simp only [this, Option.bind_some]
  cases allIn xs b c <;> rfl

theorem word64 {xs : List Int} {L : Int} (h : xs.length ≤ 4294967296) : spec_l02Word xs L = some (allIn xs 0 (wsub .i64 L 1) && decide (lenI xs ≤ 12)) := by
  unfold spec_l02Word
  have := rounds_all (f := spec_l02Word_B1 xs L) (fun i => ((i : Nat) : Int)) (fun i => decide (xs.getD i 0 ≥ 0) && decide (xs.getD i 0 ≤ wsub .i64 L 1)) (Sum.inl ()) (Sum.inr ()) (n := xs.length) (fun i hi => by
    unfold spec_l02Word_B1
    simp only [ltN hi, cond_true, guard_pos (idxN hi), Int.toNat_natCast, in64, Option.bind_some, nextN hi h]
    cases (decide (xs.getD i 0 ≥ 0) && decide (xs.getD i 0 ≤ wsub .i64 L 1)) <;> rfl) (by
    unfold spec_l02Word_B1
    simp only [geN (Nat.le_refl _), cond_false]) xs.length 0 (by omega)
  rw [allN_in] at this
  simp only [Int.natCast_zero] at this
  simp only [this, Option.bind_some]
  cases allIn xs 0 (wsub .i64 L 1) <;> simp

theorem isWord64 {xs : List Int} {L : Int} (h : xs.length ≤ 4294967296) : impl_IsWord xs L = some ((decide (L ≥ 1) && decide (L ≤ 4)) && (decide (lenI xs ≤ 12) && allIn xs 0 (wsub .i64 L 1))) := by
  unfold impl_IsWord
  rw [within64, areWithin64 h]
  cases (decide (L ≥ 1) && decide (L ≤ 4)) <;> cases decide (lenI xs ≤ 12) <;> simp

def okPlain (s l : Int) (nx : List Int) (es : List Bool) : Bool :=
  (decide (s ≥ 1) && decide (s ≤ 64)) && ((decide (l ≥ 1) && decide (l ≤ 4)) && ((lenI nx == wmul .i64 s l) && ((lenI es == s) && allIn nx 0 (wsub .i64 s 1))))

theorem specPlain {s l : Int} {nx : List Int} {es : List Bool} (h : nx.length ≤ 4294967296) : spec_l02Plain (s, l, nx, es) = some (okPlain s l nx es) := by
  unfold spec_l02Plain okPlain
  simp only [in64, Option.bind_some]
  have := rounds_all (f := spec_l02Plain_B1 (s, l, nx, es)) (fun i => ((i : Nat) : Int)) (fun i => decide (nx.getD i 0 ≥ 0) && decide (nx.getD i 0 ≤ wsub .i64 s 1)) (Sum.inl ()) (Sum.inr ()) (n := nx.length) (fun i hi => by
    unfold spec_l02Plain_B1
    simp only [ltN hi, cond_true, guard_pos (idxN hi), Int.toNat_natCast, in64, Option.bind_some, nextN hi h]
    cases (decide (nx.getD i 0 ≥ 0) && decide (nx.getD i 0 ≤ wsub .i64 s 1)) <;> rfl) (by
    unfold spec_l02Plain_B1
    simp only [geN (Nat.le_refl _), cond_false]) nx.length 0 (by omega)
  rw [allN_in] at this
  simp only [Int.natCast_zero] at this
  simp only [this, Option.bind_some, bne]
  cases (decide (s ≥ 1) && decide (s ≤ 64)) <;> cases (decide (l ≥ 1) && decide (l ≤ 4)) <;> cases (lenI nx == wmul .i64 s l) <;> cases (lenI es == s) <;> cases allIn nx 0 (wsub .i64 s 1) <;> rfl

theorem implPlain {s l : Int} {nx : List Int} {es : List Bool} (h : nx.length ≤ 4294967296) : impl_ValidPlain (s, l, nx, es) = some (okPlain s l nx es) := by
  unfold impl_ValidPlain okPlain
  simp only [within64, areWithin64 h, Option.bind_some]
  cases (decide (s ≥ 1) && decide (s ≤ 64)) <;> cases (decide (l ≥ 1) && decide (l ≤ 4)) <;> cases (lenI nx == wmul .i64 s l) <;> cases (lenI es == s) <;> cases allIn nx 0 (wsub .i64 s 1) <;> rfl

theorem okPlain_spec {s l : Int} {nx : List Int} {es : List Bool} (h : okPlain s l nx es = true) : ∃ m c : Nat, s = (m : Int) ∧ l = (c : Int) ∧ 1 ≤ m ∧ m ≤ 64 ∧ 1 ≤ c ∧ c ≤ 4 ∧ nx.length = m * c ∧ es.length = m ∧ ∀ i, i < m * c → ∃ t : Nat, nx.getD i 0 = (t : Int) ∧ t < m := by
  unfold okPlain at h
  simp only [Bool.and_eq_true, decide_eq_true_eq, beq_iff_eq] at h
  obtain ⟨⟨h1, h2⟩, ⟨h3, h4⟩, h5, h6, h7⟩ := h
  obtain ⟨m, rfl⟩ : ∃ n : Nat, s = (n : Int) := ⟨s.toNat, by omega⟩
  obtain ⟨c, rfl⟩ : ∃ n : Nat, l = (n : Int) := ⟨l.toNat, by omega⟩
  have hmc : m * c ≤ 64 * 4 := Nat.mul_le_mul (by omega) (by omega)
  rw [wmulI (by rw [← Int.natCast_mul]; omega), ← Int.natCast_mul] at h5
  have hl : nx.length = m * c := by simp only [lenI] at h5; omega
  refine ⟨m, c, rfl, rfl, by omega, by omega, by omega, by omega, hl, by simp only [lenI] at h6; omega, fun i hi => ?_⟩
  have := allIn_iff.1 h7 i (by omega)
  rw [wsubI (by omega)] at this
  exact ⟨(nx.getD i 0).toNat, by omega, by omega⟩

def okLoop (xs ys : List Int) (L : Int) : Bool := (decide (L ≥ 1) && decide (L ≤ 4)) && ((allIn xs 0 (wsub .i64 L 1) && decide (lenI xs ≤ 12)) && ((allIn ys 0 (wsub .i64 L 1) && decide (lenI ys ≤ 12)) && decide (lenI ys ≥ 1)))

theorem specLoop {xs ys : List Int} {L : Int} (hx : xs.length ≤ 4294967296) (hy : ys.length ≤ 4294967296) : spec_l07Loop (xs, ys) L = some (okLoop xs ys L) := by
  unfold spec_l07Loop okLoop
  simp only [in64, word64 hx, word64 hy, Option.bind_some]
  cases (decide (L ≥ 1) && decide (L ≤ 4)) <;> cases (allIn xs 0 (wsub .i64 L 1) && decide (lenI xs ≤ 12)) <;> cases (allIn ys 0 (wsub .i64 L 1) && decide (lenI ys ≤ 12)) <;> simp

theorem implLoop {xs ys : List Int} {L : Int} (hx : xs.length ≤ 4294967296) (hy : ys.length ≤ 4294967296) : impl_ValidLoop (xs, ys) L = some (okLoop xs ys L) := by
  unfold impl_ValidLoop okLoop
  have e : decide (lenI ys > 0) = decide (lenI ys ≥ 1) := by simp [lenI]; omega
  simp only [isWord64 hx, isWord64 hy, Option.bind_some, e]
  cases (decide (L ≥ 1) && decide (L ≤ 4)) <;> cases allIn xs 0 (wsub .i64 L 1) <;> cases decide (lenI xs ≤ 12) <;> cases allIn ys 0 (wsub .i64 L 1) <;> cases decide (lenI ys ≤ 12) <;> simp

def Letters (c : Nat) (xs : List Int) : Prop := ∀ i, i < xs.length → ∃ a : Nat, xs.getD i 0 = (a : Int) ∧ a < c

theorem okLoop_spec {xs ys : List Int} {c : Nat} (h : okLoop xs ys (c : Int) = true) : xs.length ≤ 12 ∧ ys.length ≤ 12 ∧ 1 ≤ ys.length ∧ Letters c xs ∧ Letters c ys := by
  unfold okLoop at h
  simp only [Bool.and_eq_true, decide_eq_true_eq, lenI] at h
  obtain ⟨⟨h1, h2⟩, ⟨h3, h4⟩, ⟨h5, h6⟩, h7⟩ := h
  rw [wsubI (by omega)] at h3 h5
  refine ⟨by omega, by omega, by omega, fun i hi => ?_, fun i hi => ?_⟩
  · have := allIn_iff.1 h3 i hi
    exact ⟨(xs.getD i 0).toNat, by omega, by omega⟩
  · have := allIn_iff.1 h5 i hi
    exact ⟨(ys.getD i 0).toNat, by omega, by omega⟩

structure Plain (m c : Nat) (nx : List Int) (es : List Bool) : Prop where
  m1 : 1 ≤ m
  m2 : m ≤ 64
  c1 : 1 ≤ c
  c2 : c ≤ 4
  len : nx.length = m * c
  ends : es.length = m
  to : ∀ i, i < m * c → ∃ t : Nat, nx.getD i 0 = (t : Int) ∧ t < m

def goP (c : Nat) (nx : List Int) (s : Nat) (a : Int) : Nat := (nx.getD (s * c + a.toNat) 0).toNat

def walkP (c : Nat) (nx : List Int) (s : Nat) (w : List Int) : Nat := w.foldl (goP c nx) s

theorem place_lt {m c s a : Nat} (hs : s < m) (ha : a < c) : s * c + a < m * c := by
  have : s * c + c ≤ m * c := by
    rw [← Nat.succ_mul]
    exact Nat.mul_le_mul_right c hs
  omega

section
variable {m c : Nat} {nx : List Int} {es : List Bool} (hp : Plain m c nx es)
include hp

theorem goP_lt {s : Nat} {a : Int} {k : Nat} (hs : s < m) (ha : a = (k : Int)) (hk : k < c) : goP c nx s a < m := by
  subst ha
  obtain ⟨t, h1, h2⟩ := hp.to (s * c + k) (place_lt hs hk)
  unfold goP
  rw [Int.toNat_natCast, h1]
  simpa using h2

theorem spec_go {s : Nat} {a : Int} {k : Nat} (hs : s < m) (ha : a = (k : Int)) (hk : k < c) : spec_l07Go ((m : Int), (c : Int), nx, es) (s : Int) a = some ((goP c nx s a : Nat) : Int) := by
  subst ha
  have h0 := place_lt hs hk
  have hmc : m * c ≤ 64 * 4 := Nat.mul_le_mul hp.m2 hp.c2
  obtain ⟨t, h1, h2⟩ := hp.to (s * c + k) h0
  have := hp.m2; have := hp.c2; have := hp.len
  have e : wadd .i64 (wmul .i64 (s : Int) (c : Int)) (k : Int) = ((s * c + k : Nat) : Int) := cellN (by omega) (by omega) (by omega)
  unfold spec_l07Go goP
  simp only [e, Int.toNat_natCast, guard_pos (show (0 : Int) ≤ ((s * c + k : Nat) : Int) ∧ ((s * c + k : Nat) : Int) < lenI nx from by simp only [lenI]; omega), h1]

theorem impl_go {s : Nat} {a : Int} {k : Nat} (hs : s < m) (ha : a = (k : Int)) (hk : k < c) : impl_Plain_to ((m : Int), (c : Int), nx, es) (s : Int) a = some ((goP c nx s a : Nat) : Int) := by
  subst ha
  have h0 := place_lt hs hk
  have hmc : m * c ≤ 64 * 4 := Nat.mul_le_mul hp.m2 hp.c2
  obtain ⟨t, h1, h2⟩ := hp.to (s * c + k) h0
  have := hp.m2; have := hp.c2; have := hp.len
  have e : wadd .i64 (wmul .i64 (s : Int) (c : Int)) (k : Int) = ((s * c + k : Nat) : Int) := cellN (by omega) (by omega) (by omega)
  unfold impl_Plain_to goP
  simp only [e, Int.toNat_natCast, guard_pos (show (0 : Int) ≤ ((s * c + k : Nat) : Int) ∧ ((s * c + k : Nat) : Int) < lenI nx from by simp only [lenI]; omega), h1]

theorem walk_lt {w : List Int} (hw : Letters c w) : ∀ (k : Nat) {s : Nat}, s < m → walkP c nx s (w.take k) < m := by
  intro k
  induction k with
  | zero => intro s hs; simpa [walkP] using hs
  | succ k ih =>
    intro s hs
    by_cases hk : k < w.length
    · rw [take_snoc hk 0]
      unfold walkP
      rw [List.foldl_append]
      obtain ⟨a, e, ha⟩ := hw k hk
      exact goP_lt hp (ih hs) e ha
    · have e : w.take (k + 1) = w.take k := by rw [List.take_of_length_le (by omega), List.take_of_length_le (by omega)]
      rw [e]; exact ih hs

end

theorem walk_succ {c : Nat} {nx w : List Int} {s k : Nat} (hk : k < w.length) : walkP c nx s (w.take (k + 1)) = goP c nx (walkP c nx s (w.take k)) (w.getD k 0) := by
  rw [take_snoc hk 0]; unfold walkP; rw [List.foldl_append]; rfl

end Go.Proofs


namespace Go.Proofs
open Go.Ide Go.IntWalk

def idxF : List Bool → Nat → List Int
  | [], _ => []
  | b :: bs, i => if b then (i : Int) :: idxF bs (i + 1) else idxF bs (i + 1)

theorem idxF_cons (b : Bool) (bs : List Bool) (i : Nat) : idxF (b :: bs) i = if b then (i : Int) :: idxF bs (i + 1) else idxF bs (i + 1) := rfl

theorem idxF_ge : ∀ (bs : List Bool) (i : Nat), ∀ x ∈ idxF bs i, (i : Int) ≤ x
  | [], _, x, h => by simp [idxF] at h
  | b :: bs, i, x, h => by
    unfold idxF at h
    split at h
    · rcases List.mem_cons.1 h with e | h
      · omega
      · have := idxF_ge bs (i + 1) x h; omega
    · have := idxF_ge bs (i + 1) x h; omega

theorem idxF_len : ∀ (bs : List Bool) (i : Nat), (idxF bs i).length ≤ bs.length
  | [], _ => by simp [idxF]
  | b :: bs, i => by
    have := idxF_len bs (i + 1)
    unfold idxF
    split <;> simp only [List.length_cons] <;> omega

def insI (n : Int) : List Int → List Int
  | [] => [n]
  | x :: xs => if x ≥ n then (if x > n then n :: x :: xs else x :: xs) else x :: insI n xs

theorem insI_cons (n x : Int) (xs : List Int) : insI n (x :: xs) = if x ≥ n then (if x > n then n :: x :: xs else x :: xs) else x :: insI n xs := rfl

theorem insI_idx : ∀ (bs : List Bool) (i j : Nat), j < bs.length → insI ((i + j : Nat) : Int) (idxF bs i) = idxF (bs.set j true) i
  | [], _, _, h => by simp at h
  | b :: bs, i, 0, _ => by
    simp only [Nat.add_zero, List.set_cons_zero, idxF, if_true]
    cases b with
    | true => simp [insI]
    | false =>
      simp only [Bool.false_eq_true, if_false]
      have hge := idxF_ge bs (i + 1)
      cases hx : idxF bs (i + 1) with
      | nil => rfl
      | cons x xs =>
        have := hge x (by rw [hx]; exact List.mem_cons_self)
        unfold insI
        rw [if_pos (by omega), if_pos (by omega)]
  | b :: bs, i, j + 1, h => by
    have ih := insI_idx bs (i + 1) j (by simpa using h)
    rw [show i + 1 + j = i + (j + 1) from by omega] at ih
    simp only [List.set_cons_succ, idxF]
    cases b with
    | true =>
      simp only [if_true]
      unfold insI
      rw [if_neg (by omega), ih]
    | false => simpa using ih

theorem spec_put {xs : List Int} {n : Int} (h : xs.length ≤ 1000000) : spec_l00Put xs n = some (insI n xs) := by
  unfold spec_l00Put
  have := rounds_forS (f := spec_l00Put_B1 xs n) (fun i (s : Bool × List Int) => (s.1, ((i : Nat) : Int), s.2))
    (fun i s => if s.1 = false ∧ xs.getD i 0 ≥ n then (true, (if xs.getD i 0 > n then s.2 ++ [n] else s.2) ++ [xs.getD i 0]) else (s.1, s.2 ++ [xs.getD i 0])) (fun s => (s.1, s.2)) (n := xs.length)
    (fun i s => s.2.length ≤ i + (if s.1 then 1 else 0) ∧ (if s.1 then s.2 ++ xs.drop i = insI n xs else s.2 ++ insI n (xs.drop i) = insI n xs))
    (fun i s hi hs => by
      obtain ⟨d, out⟩ := s
      obtain ⟨hl, hs⟩ := hs
      have hl2 : out.length ≤ i + (if d then 1 else 0) := hl
      have hl : out.length ≤ i + 1 := by cases d <;> simp at hl2 <;> omega
      refine ⟨?_, ?_⟩
      · unfold spec_l00Put_B1
        have g1 : ∀ (l : List Int) (x : Int), l.length ≤ i + 2 → List.length l + List.length ([x] : List Int) ≤ appMax := fun l x hl => by simp only [appMax, List.length_cons, List.length_nil]; omega
        simp only [ltN hi, cond_true, guard_pos (idxN hi), Int.toNat_natCast, nextN hi (by omega), guard_pos (g1 out n (by omega))]
        cases d with
        | true =>
          simp only [Bool.not_true, cond_false, Option.bind_some, Bool.true_eq_false, false_and, if_false, guard_pos (g1 out (xs.getD i 0) (by omega))]
        | false =>
          by_cases hx : xs.getD i 0 ≥ n
          · by_cases hy : xs.getD i 0 > n
            · simp only [Bool.not_false, cond_true, hx, hy, decide_true, Option.bind_some, true_and, if_true, guard_pos (g1 (out ++ [n]) (xs.getD i 0) (by simp; omega))]
            · simp only [Bool.not_false, cond_true, cond_false, hx, hy, decide_true, decide_false, Option.bind_some, true_and, if_true, if_false, guard_pos (g1 out (xs.getD i 0) (by omega))]
          · simp only [Bool.not_false, cond_true, cond_false, hx, decide_false, Option.bind_some, true_and, if_false, guard_pos (g1 out (xs.getD i 0) (by omega))]
      · have hd := drop_cons hi 0
        cases d with
        | true =>
          simp only [Bool.true_eq_false, false_and, if_false, if_true] at hs ⊢
          exact ⟨by simp; omega, by rw [← hs, hd]; simp⟩
        | false =>
          simp only [Bool.false_eq_true, if_false] at hs
          rw [hd, insI_cons] at hs
          have hl2 : out.length ≤ i := by simpa using hl2
          by_cases hx : xs.getD i 0 ≥ n
          · rw [if_pos hx] at hs
            simp only [true_and, hx, if_true]
            by_cases hy : xs.getD i 0 > n
            · rw [if_pos hy] at hs
              rw [if_pos hy]
              exact ⟨by simp; omega, by rw [← hs]; simp⟩
            · rw [if_neg hy] at hs
              rw [if_neg hy]
              exact ⟨by simp; omega, by rw [← hs]; simp⟩
          · rw [if_neg hx] at hs
            simp only [true_and, hx, if_false, Bool.false_eq_true]
            exact ⟨by simp; omega, by rw [← hs]; simp⟩)
    (fun s hs => by
      unfold spec_l00Put_B1
      simp only [geN (Nat.le_refl _), cond_false]) xs.length 0 (false, []) (by omega) ⟨by simp, by simp⟩
  simp only [Int.natCast_zero] at this
  obtain ⟨e, hl, hI⟩ := this
  rw [e]
  simp only [Option.bind_some]
  generalize forS _ xs.length 0 (false, ([] : List Int)) = r at hl hI
  obtain ⟨d, out⟩ := r
  cases d with
  | true => simpa using hI
  | false =>
    have hl : out.length ≤ xs.length := by simpa using hl
    have g1 : List.length out + List.length ([n] : List Int) ≤ appMax := by simp only [appMax, List.length_cons, List.length_nil]; omega
    have hI : out ++ insI n (xs.drop xs.length) = insI n xs := by simpa using hI
    rw [List.drop_length] at hI
    simp only [Bool.not_false, cond_true, guard_pos g1, Option.bind_some]
    rw [← hI]; rfl

section
variable {m c : Nat} {nx : List Int} {es : List Bool}

theorem walk_loop {f : Int × Int → Option ((Int × Int) ⊕ Int)} {w : List Int} (hp : Plain m c nx es) (hw : Letters c w)
    (hstep : ∀ s i : Nat, s < m → i < w.length → f ((s : Int), (i : Int)) = some (.inl (((goP c nx s (w.getD i 0) : Nat) : Int), ((i + 1 : Nat) : Int))))
    (hend : ∀ s : Nat, f ((s : Int), (w.length : Int)) = some (.inr (s : Int))) {s : Nat} (hs : s < m) : rounds f ((s : Int), (0 : Int)) = some ((walkP c nx s w : Nat) : Int) := by
  have := rounds_forS (f := f) (fun i (s : Nat) => ((s : Int), ((i : Nat) : Int))) (fun i s => goP c nx s (w.getD i 0)) (fun s => (s : Int)) (n := w.length) (fun i t => t = walkP c nx s (w.take i))
    (fun i t hi ht => ⟨hstep t i (by rw [ht]; exact walk_lt hp hw i hs) hi, by rw [ht, walk_succ hi]⟩) (fun t _ => hend t) w.length 0 s (by omega) rfl
  simp only [Int.natCast_zero, List.take_length] at this
  rw [this.1, this.2]

def repP (c : Nat) (nx w : List Int) : Nat → Nat → Nat
  | 0, s => s
  | k + 1, s => repP c nx w k (walkP c nx s w)

theorem rep_loop {f : Int × Int → Option ((Int × Int) ⊕ Int)} {w : List Int} {n : Nat} (hp : Plain m c nx es) (hw : Letters c w)
    (hstep : ∀ s i : Nat, s < m → i < n → f ((s : Int), (i : Int)) = some (.inl (((walkP c nx s w : Nat) : Int), ((i + 1 : Nat) : Int))))
    (hend : ∀ s : Nat, f ((s : Int), (n : Int)) = some (.inr (s : Int))) {s : Nat} (hs : s < m) : ∃ t : Nat, t < m ∧ t = repP c nx w n s ∧ rounds f ((s : Int), (0 : Int)) = some ((t : Nat) : Int) := by
  have hrep : ∀ (k i s : Nat), forS (fun _ s => walkP c nx s w) k i s = repP c nx w k s := by
    intro k
    induction k with
    | zero => intro i s; rfl
    | succ k ih => intro i s; exact ih (i + 1) _
  have hwl : ∀ s, s < m → walkP c nx s w < m := fun s hs => by have := walk_lt hp hw w.length hs; rwa [List.take_length] at this
  have := rounds_forS (f := f) (fun i (s : Nat) => ((s : Int), ((i : Nat) : Int))) (fun _ s => walkP c nx s w) (fun s => (s : Int)) (n := n) (fun i t => t < m)
    (fun i t hi ht => ⟨hstep t i ht hi, hwl t ht⟩) (fun t _ => hend t) n 0 s (by omega) hs
  simp only [Int.natCast_zero] at this
  rw [hrep] at this
  exact ⟨_, this.2, rfl, this.1⟩

def markP (c : Nat) (nx w : List Int) : Nat → Nat → Nat × List Bool → Nat × List Bool
  | k, i, s => forS (fun i (s : Nat × List Bool) => (goP c nx s.1 (w.getD i 0), s.2.set (goP c nx s.1 (w.getD i 0)) true)) k i s
def marksP (c : Nat) (nx w : List Int) (n : Nat) (s : Nat × List Bool) : Nat × List Bool := forS (fun _ s => markP c nx w w.length 0 s) n 0 s

def keepS (b : List Bool) : List Int := idxF b 0

theorem mark_loop1 {κ : Type} {f : Int × Int × κ → Option ((Int × Int × κ) ⊕ (Int × κ))} {w : List Int} (K : List Bool → κ) (hp : Plain m c nx es) (hw : Letters c w)
    (hstep : ∀ (s i : Nat) (b : List Bool), s < m → i < w.length → b.length = m → f ((s : Int), (i : Int), K b) = some (.inl (((goP c nx s (w.getD i 0) : Nat) : Int), ((i + 1 : Nat) : Int), K (b.set (goP c nx s (w.getD i 0)) true))))
    (hend : ∀ (s : Nat) (b : List Bool), b.length = m → f ((s : Int), (w.length : Int), K b) = some (.inr ((s : Int), K b))) {s : Nat} {b : List Bool} (hs : s < m) (hb : b.length = m) :
    ∃ t b', (t, b') = markP c nx w w.length 0 (s, b) ∧ t < m ∧ b'.length = m ∧ rounds f ((s : Int), (0 : Int), K b) = some ((t : Int), K b') := by
  have := rounds_forS (f := f) (fun i (s : Nat × List Bool) => ((s.1 : Int), ((i : Nat) : Int), K s.2)) (fun i (s : Nat × List Bool) => (goP c nx s.1 (w.getD i 0), s.2.set (goP c nx s.1 (w.getD i 0)) true)) (fun s => ((s.1 : Int), K s.2)) (n := w.length) (fun i t => t.1 < m ∧ t.2.length = m)
    (fun i t hi ht => ⟨hstep t.1 i t.2 ht.1 hi ht.2, by
      obtain ⟨a, e, ha⟩ := hw i hi
      exact ⟨goP_lt hp ht.1 e ha, by simpa using ht.2⟩⟩) (fun t ht => hend t.1 t.2 ht.2) w.length 0 (s, b) (by omega) ⟨hs, hb⟩
  simp only [Int.natCast_zero] at this
  exact ⟨_, _, rfl, this.2.1, this.2.2, this.1⟩

theorem mark_loop2 {κ : Type} {f : Int × Int × κ → Option ((Int × Int × κ) ⊕ κ)} {w : List Int} {n : Nat} (K : List Bool → κ) (hp : Plain m c nx es) (hw : Letters c w)
    (hstep : ∀ (s i : Nat) (b : List Bool), s < m → i < n → b.length = m → f ((s : Int), (i : Int), K b) = some (.inl (((markP c nx w w.length 0 (s, b)).1 : Int), ((i + 1 : Nat) : Int), K (markP c nx w w.length 0 (s, b)).2)))
    (hend : ∀ (s : Nat) (b : List Bool), b.length = m → f ((s : Int), (n : Int), K b) = some (.inr (K b))) {s : Nat} {b : List Bool} (hs : s < m) (hb : b.length = m) :
    (marksP c nx w n (s, b)).2.length = m ∧ rounds f ((s : Int), (0 : Int), K b) = some (K (marksP c nx w n (s, b)).2) := by
  have hin : ∀ t : Nat × List Bool, t.1 < m ∧ t.2.length = m → (markP c nx w w.length 0 t).1 < m ∧ (markP c nx w w.length 0 t).2.length = m := by
    intro t ht
    have aux : ∀ (k i : Nat) (t : Nat × List Bool), i + k = w.length → t.1 < m ∧ t.2.length = m → (markP c nx w k i t).1 < m ∧ (markP c nx w k i t).2.length = m := by
      intro k
      induction k with
      | zero => intro i t _ h; exact h
      | succ k ih =>
        intro i t hi h
        obtain ⟨a, e, ha⟩ := hw i (by omega)
        exact ih (i + 1) _ (by omega) ⟨goP_lt hp h.1 e ha, by simpa using h.2⟩
    exact aux w.length 0 t (by omega) ht
  have := rounds_forS (f := f) (fun i (s : Nat × List Bool) => ((s.1 : Int), ((i : Nat) : Int), K s.2)) (fun _ s => markP c nx w w.length 0 s) (fun s => K s.2) (n := n) (fun i t => t.1 < m ∧ t.2.length = m)
    (fun i t hi ht => ⟨hstep t.1 i t.2 ht.1 hi ht.2, hin t ht⟩) (fun t ht => hend t.1 t.2 ht.2) n 0 (s, b) (by omega) ⟨hs, hb⟩
  simp only [Int.natCast_zero] at this
  exact ⟨this.2.2, this.1⟩

def statesP (m c : Nat) (nx hd rd : List Int) : List Bool := (marksP c nx rd m (repP c nx rd m (walkP c nx 0 hd), List.replicate m false)).2

section
variable {hd rd : List Int} (hp : Plain m c nx es) (hh : Letters c hd) (hr : Letters c rd) (lh : hd.length ≤ 1000) (lr : rd.length ≤ 1000)
include hp hh hr lh lr

theorem spec_states : spec_l07States ((m : Int), (c : Int), nx, es) (hd, rd) = some (keepS (statesP m c nx hd rd)) ∧ (statesP m c nx hd rd).length = m := by
  have m1 := hp.m1; have m2 := hp.m2
  have e5 := walk_loop (f := spec_l07States_B5 ((m : Int), (c : Int), nx, es) (hd, rd)) hp hh (fun s i hs hi => by
    unfold spec_l07States_B5
    obtain ⟨a, e, ha⟩ := hh i hi
    simp only [ltN hi, cond_true, guard_pos (idxN hi), Int.toNat_natCast, spec_go hp hs e ha, Option.bind_some, nextN hi (by omega)]) (fun s => by
    unfold spec_l07States_B5
    simp only [geN (Nat.le_refl _), cond_false]) (s := 0) (by omega)
  have hw0 : walkP c nx 0 hd < m := by have := walk_lt hp hh hd.length (s := 0) (by omega); rwa [List.take_length] at this
  have e3 : ∀ s, s < m → rounds (spec_l07States_B3 ((m : Int), (c : Int), nx, es) (hd, rd)) ((s : Int), (0 : Int)) = some ((walkP c nx s rd : Nat) : Int) := fun s hs => walk_loop hp hr (fun s i hs hi => by
    unfold spec_l07States_B3
    obtain ⟨a, e, ha⟩ := hr i hi
    simp only [ltN hi, cond_true, guard_pos (idxN hi), Int.toNat_natCast, spec_go hp hs e ha, Option.bind_some, nextN hi (by omega)]) (fun s => by
    unfold spec_l07States_B3
    simp only [geN (Nat.le_refl _), cond_false]) hs
  obtain ⟨t, ht, ht2, e4⟩ := rep_loop (f := spec_l07States_B4 ((m : Int), (c : Int), nx, es) (hd, rd)) (n := m) hp hr (fun s i hs hi => by
    unfold spec_l07States_B4
    simp only [ltN hi, cond_true, e3 s hs, Option.bind_some, nextN hi (by omega)]) (fun s => by
    unfold spec_l07States_B4
    simp only [geN (Nat.le_refl _), cond_false]) hw0
  have e1 : ∀ (s : Nat) (b : List Bool), s < m → b.length = m → rounds (spec_l07States_B1 ((m : Int), (c : Int), nx, es) (hd, rd)) ((s : Int), (0 : Int), keepS b) = some (((markP c nx rd rd.length 0 (s, b)).1 : Int), keepS (markP c nx rd rd.length 0 (s, b)).2) := by
    intro s b hs hb
    obtain ⟨t, b', e, _, _, er⟩ := mark_loop1 (f := spec_l07States_B1 ((m : Int), (c : Int), nx, es) (hd, rd)) keepS hp hr (fun s i b hs hi hb => by
      unfold spec_l07States_B1
      obtain ⟨a, e, ha⟩ := hr i hi
      have hlt := goP_lt hp hs e ha
      have hl := idxF_len b 0
      have hins := insI_idx b 0 (goP c nx s (rd.getD i 0)) (by omega)
      rw [Nat.zero_add] at hins
      simp only [ltN hi, cond_true, guard_pos (idxN hi), Int.toNat_natCast, spec_go hp hs e ha, Option.bind_some, nextN hi (by omega), spec_put (show (keepS b).length ≤ 1000000 from by unfold keepS; omega)]
      unfold keepS
      rw [hins]) (fun s b hb => by
      unfold spec_l07States_B1
      simp only [geN (Nat.le_refl _), cond_false]) hs hb
    rw [← e]; exact er
  have e2 := mark_loop2 (f := spec_l07States_B2 ((m : Int), (c : Int), nx, es) (hd, rd)) (n := m) keepS hp hr (fun s i b hs hi hb => by
    unfold spec_l07States_B2
    simp only [ltN hi, cond_true, e1 s b hs hb, Option.bind_some, nextN hi (by omega)]) (fun s b hb => by
    unfold spec_l07States_B2
    simp only [geN (Nat.le_refl _), cond_false]) (s := t) (b := List.replicate m false) ht (by simp)
  have hk : keepS (List.replicate m false) = [] := by
    unfold keepS
    have : ∀ (k i : Nat), idxF (List.replicate k false) i = [] := by
      intro k
      induction k with
      | zero => intro i; rfl
      | succ k ih => intro i; simp only [List.replicate_succ, idxF, Bool.false_eq_true, if_false]; exact ih (i + 1)
    exact this m 0
  rw [hk] at e2
  unfold spec_l07States statesP
  rw [← ht2]
  simp only [Int.natCast_zero] at e5
  simp only [e5, e4, e2.2, Option.bind_some]
  exact ⟨trivial, e2.1⟩

theorem impl_states : impl_statesOfLoop ((m : Int), (c : Int), nx, es) (hd, rd) = some (statesP m c nx hd rd) := by
  have m1 := hp.m1; have m2 := hp.m2
  have e5 := walk_loop (f := impl_Plain_stateOf_B1 ((m : Int), (c : Int), nx, es) hd) hp hh (fun s i hs hi => by
    unfold impl_Plain_stateOf_B1
    obtain ⟨a, e, ha⟩ := hh i hi
    simp only [ltN hi, cond_true, guard_pos (idxN hi), Int.toNat_natCast, impl_go hp hs e ha, Option.bind_some, nextN hi (by omega)]) (fun s => by
    unfold impl_Plain_stateOf_B1
    simp only [geN (Nat.le_refl _), cond_false]) (s := 0) (by omega)
  have hw0 : walkP c nx 0 hd < m := by have := walk_lt hp hh hd.length (s := 0) (by omega); rwa [List.take_length] at this
  have e3 : ∀ s, s < m → rounds (impl_statesOfLoop_B3 ((m : Int), (c : Int), nx, es) (hd, rd)) ((s : Int), (0 : Int)) = some ((walkP c nx s rd : Nat) : Int) := fun s hs => walk_loop hp hr (fun s i hs hi => by
    unfold impl_statesOfLoop_B3
    obtain ⟨a, e, ha⟩ := hr i hi
    simp only [ltN hi, cond_true, guard_pos (idxN hi), Int.toNat_natCast, impl_go hp hs e ha, Option.bind_some, nextN hi (by omega)]) (fun s => by
    unfold impl_statesOfLoop_B3
    simp only [geN (Nat.le_refl _), cond_false]) hs
  obtain ⟨t, ht, ht2, e4⟩ := rep_loop (f := impl_statesOfLoop_B4 ((m : Int), (c : Int), nx, es) (hd, rd)) (n := m) hp hr (fun s i hs hi => by
    unfold impl_statesOfLoop_B4
    simp only [ltN hi, cond_true, e3 s hs, Option.bind_some, nextN hi (by omega)]) (fun s => by
    unfold impl_statesOfLoop_B4
    simp only [geN (Nat.le_refl _), cond_false]) hw0
  have e1 : ∀ (s : Nat) (b : List Bool), s < m → b.length = m → rounds (impl_statesOfLoop_B1 ((m : Int), (c : Int), nx, es) (hd, rd)) ((s : Int), (0 : Int), b) = some (((markP c nx rd rd.length 0 (s, b)).1 : Int), (markP c nx rd rd.length 0 (s, b)).2) := by
    intro s b hs hb
    obtain ⟨t, b', e, _, _, er⟩ := mark_loop1 (f := impl_statesOfLoop_B1 ((m : Int), (c : Int), nx, es) (hd, rd)) id hp hr (fun s i b hs hi hb => by
      unfold impl_statesOfLoop_B1
      obtain ⟨a, e, ha⟩ := hr i hi
      have hlt := goP_lt hp hs e ha
      simp only [ltN hi, cond_true, guard_pos (idxN hi), Int.toNat_natCast, impl_go hp hs e ha, Option.bind_some, nextN hi (by omega), id, guard_pos (idxN (i := goP c nx s (rd.getD i 0)) (n := b.length) (by omega))]) (fun s b hb => by
      unfold impl_statesOfLoop_B1
      simp only [geN (Nat.le_refl _), cond_false]) hs hb
    rw [← e]; exact er
  have e2 := mark_loop2 (f := impl_statesOfLoop_B2 ((m : Int), (c : Int), nx, es) (hd, rd)) (n := m) id hp hr (fun s i b hs hi hb => by
    unfold impl_statesOfLoop_B2
    simp only [ltN hi, cond_true, id, e1 s b hs hb, Option.bind_some, nextN hi (by omega)]) (fun s b hb => by
    unfold impl_statesOfLoop_B2
    simp only [geN (Nat.le_refl _), cond_false]) (s := t) (b := List.replicate m false) ht (by simp)
  unfold impl_statesOfLoop statesP impl_Plain_stateOf
  rw [← ht2]
  have e2b := e2.2
  simp only [id] at e2b
  simp only [Int.natCast_zero] at e5
  simp only [e5, e4, e2b, Option.bind_some, Int.toNat_natCast]
  rw [guard_pos (by omega)]

end
end

theorem indices_ok {b : List Bool} (h : b.length ≤ 1000000) : impl_indicesOf b = some (idxF b 0) := by
  unfold impl_indicesOf
  have := rounds_forS (f := impl_indicesOf_B1 b) (fun i (s : List Int) => (((i : Nat) : Int), s)) (fun i s => if b.getD i false then s ++ [(i : Int)] else s) id (n := b.length)
    (fun i s => s.length ≤ i ∧ s ++ idxF (b.drop i) i = idxF b 0)
    (fun i s hi hs => by
      obtain ⟨hl, hs⟩ := hs
      refine ⟨?_, ?_⟩
      · unfold impl_indicesOf_B1
        simp only [ltN hi, cond_true, guard_pos (idxN hi), Int.toNat_natCast, nextN hi (by omega)]
        cases b.getD i false with
        | true => simp only [cond_true, if_true, guard_pos (show List.length s + List.length ([(i : Int)] : List Int) ≤ appMax from by simp only [appMax, List.length_cons, List.length_nil]; omega), Option.bind_some]
        | false => simp only [cond_false, Bool.false_eq_true, if_false, Option.bind_some]
      · rw [drop_cons hi false, idxF_cons] at hs
        cases hb : b.getD i false with
        | true => rw [hb] at hs; simp only [if_true] at hs ⊢; exact ⟨by simp; omega, by rw [← hs]; simp⟩
        | false => rw [hb] at hs; simp only [Bool.false_eq_true, if_false] at hs ⊢; exact ⟨by omega, hs⟩)
    (fun s hs => by
      unfold impl_indicesOf_B1
      simp only [geN (Nat.le_refl _), cond_false]; rfl) b.length 0 [] (by omega) ⟨by simp, by simp⟩
  simp only [Int.natCast_zero] at this
  rw [this.1]
  simp only [Option.bind_some, id]
  have h2 := this.2.2
  rw [List.drop_length] at h2
  simp only [idxF, List.append_nil] at h2
  rw [h2]

end Go.Proofs


namespace Go.Proofs
open Go.Ide Go.IntWalk

section
variable {nm : List UInt8} {s l : Int} {nx : List Int} {es : List Bool} (hn : nm.length ≤ 4294967296) (hx : nx.length ≤ 4294967296)
include hn hx

end

section
variable {nm : List UInt8} {s l : Int} {nx : List Int} {es : List Bool} (hn : nm.length ≤ 1048576) (hx : nx.length ≤ 1048576) (he : es.length ≤ 1048576)
include hn hx he

end

end Go.Proofs


/-
  Lists of machines that are kept: StoreKepts, SameKept.
-/
namespace Go.Proofs
open Go.Ide Go.IntWalk

def eqL {α : Type} [BEq α] (d : α) (xs ys : List α) : Bool := (lenI xs == lenI ys) && allN (fun i => xs.getD i d == ys.getD i d) xs.length 0

theorem loop_eqL {α : Type} [BEq α] {f : Int → Option (Int ⊕ (Unit ⊕ Unit))} (d : α) (xs ys : List α) (h : xs.length ≤ 4294967296)
    (hstep : ∀ i : Nat, i < xs.length → i < ys.length → f (i : Int) = some (bif xs.getD i d == ys.getD i d then .inl ((i + 1 : Nat) : Int) else .inr (.inr ())))
    (hend : f ((xs.length : Nat) : Int) = some (.inr (.inl ()))) (hl : (lenI xs == lenI ys) = true) : rounds f 0 = some (bif eqL d xs ys then .inl () else .inr ()) := by
  have hlen : xs.length = ys.length := by
    have := eq_of_beq hl
    simp only [lenI] at this
    omega
  have := rounds_all (f := f) (fun i => ((i : Nat) : Int)) (fun i => xs.getD i d == ys.getD i d) (Sum.inl ()) (Sum.inr ()) (n := xs.length) (fun i hi => hstep i hi (by omega)) hend xs.length 0 (by omega)
  rw [Int.natCast_zero] at this
  rw [this]
  unfold eqL
  rw [hl, Bool.true_and]

theorem equalI {xs ys : List Int} (h : xs.length ≤ 4294967296) : slices_Equal___int64_int64 xs ys = some (eqL 0 xs ys) := by
  unfold slices_Equal___int64_int64
  cases hl : (lenI xs == lenI ys) with
  | false => simp only [bne, hl, Bool.not_false, cond_true]; unfold eqL; rw [hl]; rfl
  | true =>
    simp only [bne, hl, Bool.not_true, cond_false]
    rw [loop_eqL (f := slices_Equal___int64_int64_B1 xs ys) 0 xs ys h (fun i h1 h2 => by
      unfold slices_Equal___int64_int64_B1
      simp only [ltN h1, cond_true, guard_pos (idxN h1), guard_pos (idxN h2), Int.toNat_natCast, nextN h1 h, bne]
      cases (xs.getD i 0 == ys.getD i 0) <;> rfl) (by
      unfold slices_Equal___int64_int64_B1
      simp only [geN (Nat.le_refl _), cond_false]) hl]
    cases eqL 0 xs ys <;> rfl

end Go.Proofs


namespace Go.Proofs
open Go.Ide Go.IntWalk

theorem idxF_mem : ∀ (bs : List Bool) (i : Nat) (x : Int), x ∈ idxF bs i ↔ ∃ j, j < bs.length ∧ x = ((i + j : Nat) : Int) ∧ bs.getD j false = true
  | [], i, x => by simp [idxF]
  | b :: bs, i, x => by
    have ih := idxF_mem bs (i + 1) x
    rw [idxF_cons]
    constructor
    · intro h
      have hc : (b = true ∧ x = (i : Int)) ∨ x ∈ idxF bs (i + 1) := by
        cases b with
        | true => simp only [if_true] at h; rcases List.mem_cons.1 h with h | h; exact .inl ⟨rfl, h⟩; exact .inr h
        | false => simp only [Bool.false_eq_true, if_false] at h; exact .inr h
      rcases hc with ⟨h1, h2⟩ | h
      · exact ⟨0, by simp, by omega, by simpa using h1⟩
      · obtain ⟨j, h1, h2, h3⟩ := ih.1 h
        exact ⟨j + 1, by simpa using h1, by omega, by simpa using h3⟩
    · rintro ⟨j, h1, h2, h3⟩
      cases j with
      | zero =>
        have hb : b = true := by simpa using h3
        subst hb
        rw [if_pos rfl, h2]
        exact List.mem_cons_self
      | succ j =>
        have := ih.2 ⟨j, by simpa using h1, by omega, by simpa using h3⟩
        split
        · exact List.mem_cons_of_mem _ this
        · exact this

theorem getD_mem {xs : List Int} {i : Nat} (h : i < xs.length) : xs.getD i 0 ∈ xs := by
  rw [List.getD_eq_getElem?_getD, List.getElem?_eq_getElem h]
  exact List.getElem_mem h

def readsB (b es : List Bool) : Bool := !allN (fun i => !(b.getD i false && es.getD i false)) b.length 0

section
variable {m c : Nat} {nx : List Int} {es : List Bool} {hd rd : List Int} (hp : Plain m c nx es) (hh : Letters c hd) (hr : Letters c rd) (lh : hd.length ≤ 1000) (lr : rd.length ≤ 1000)
include hp hh hr lh lr

theorem spec_reads : spec_l07Reads ((m : Int), (c : Int), nx, es) (hd, rd) = some (readsB (statesP m c nx hd rd) es) := by
  obtain ⟨s1, s2⟩ := spec_states hp hh hr lh lr
  have m2 := hp.m2
  have he := hp.ends
  generalize statesP m c nx hd rd = b at s1 s2
  have hlen := idxF_len b 0
  have := rounds_all (f := spec_l07Reads_B1 ((m : Int), (c : Int), nx, es) (keepS b)) (fun i => ((i : Nat) : Int)) (fun i => !es.getD ((keepS b).getD i 0).toNat false) (Sum.inl ()) (Sum.inr ()) (n := (keepS b).length) (fun i hi => by
    unfold spec_l07Reads_B1
    have hmem := getD_mem hi
    obtain ⟨j, h1, h2, h3⟩ := (idxF_mem b 0 _).1 hmem
    have hl : (keepS b).length ≤ 1000 := by unfold keepS; omega
    simp only [ltN hi, cond_true, guard_pos (idxN hi), Int.toNat_natCast, nextN hi (by omega), guard_pos (show (0 : Int) ≤ (keepS b).getD i 0 ∧ (keepS b).getD i 0 < lenI es from by simp only [lenI]; omega)]
    cases es.getD ((keepS b).getD i 0).toNat false <;> rfl) (by
    unfold spec_l07Reads_B1
    simp only [geN (Nat.le_refl _), cond_false]) (keepS b).length 0 (by omega)
  simp only [Int.natCast_zero] at this
  unfold spec_l07Reads
  simp only [s1, Option.bind_some, this]
  have e : allN (fun i => !es.getD ((keepS b).getD i 0).toNat false) (keepS b).length 0 = allN (fun i => !(b.getD i false && es.getD i false)) b.length 0 := by
    rw [Bool.eq_iff_iff, allN_iff, allN_iff]
    constructor
    · intro h j _ hj
      cases hb : b.getD j false with
      | false => rfl
      | true =>
        have hmem : ((j : Nat) : Int) ∈ keepS b := (idxF_mem b 0 _).2 ⟨j, by omega, by omega, hb⟩
        obtain ⟨i, hi, e⟩ := List.getElem_of_mem hmem
        have := h i (by omega) (by omega)
        have e2 : (keepS b).getD i 0 = ((j : Nat) : Int) := by
          rw [List.getD_eq_getElem?_getD, List.getElem?_eq_getElem hi]; exact e
        rw [e2, Int.toNat_natCast] at this
        simpa using this
    · intro h i _ hi
      have hmem := getD_mem (xs := keepS b) (i := i) (by omega)
      obtain ⟨j, h1, h2, h3⟩ := (idxF_mem b 0 _).1 hmem
      have := h j (by omega) (by omega)
      rw [h2, Nat.zero_add, Int.toNat_natCast]
      rw [h3] at this
      simpa using this
  rw [e]
  unfold readsB
  cases allN (fun i => !(b.getD i false && es.getD i false)) b.length 0 <;> rfl

theorem impl_reads : impl_readsLoop ((m : Int), (c : Int), nx, es) (hd, rd) = some (readsB (statesP m c nx hd rd) es) := by
  obtain ⟨_, s2⟩ := spec_states hp hh hr lh lr
  have s1 := impl_states hp hh hr lh lr
  have m2 := hp.m2
  have he := hp.ends
  generalize statesP m c nx hd rd = b at s1 s2
  have := rounds_all (f := impl_readsLoop_B1 ((m : Int), (c : Int), nx, es) b) (fun i => ((i : Nat) : Int)) (fun i => !(b.getD i false && es.getD i false)) (Sum.inl ()) (Sum.inr ()) (n := b.length) (fun i hi => by
    unfold impl_readsLoop_B1
    simp only [ltN hi, cond_true, guard_pos (idxN hi), Int.toNat_natCast, nextN hi (by omega), guard_pos (idxN (i := i) (n := es.length) (by omega))]
    cases b.getD i false <;> cases es.getD i false <;> rfl) (by
    unfold impl_readsLoop_B1
    simp only [geN (Nat.le_refl _), cond_false]) b.length 0 (by omega)
  simp only [Int.natCast_zero] at this
  unfold impl_readsLoop
  simp only [s1, Option.bind_some, this]
  unfold readsB
  cases allN (fun i => !(b.getD i false && es.getD i false)) b.length 0 <;> rfl
end

theorem plain_of' {m c : Nat} {nx : List Int} {es : List Bool} (h : okPlain (m : Int) (c : Int) nx es = true) : Plain m c nx es := by
  obtain ⟨m', c', e1, e2, h1, h2, h3, h4, h5, h6, h7⟩ := okPlain_spec h
  obtain rfl : m = m' := by omega
  obtain rfl : c = c' := by omega
  exact ⟨h1, h2, h3, h4, h5, h6, h7⟩

end Go.Proofs


/-
  Models of chances: when they are valid.
-/
namespace Go.Proofs
open Go.Ide Go.IntWalk

theorem allN_snoc (p : Nat → Bool) : ∀ k i, allN p (k + 1) i = (allN p k i && p (i + k))
  | 0, i => by simp [allN]
  | k + 1, i => by
    rw [allN, allN_snoc p k (i + 1), allN, show i + 1 + k = i + (k + 1) by omega, Bool.and_assoc]

end Go.Proofs


/-
  Valid models and their words; HiddenChance.
-/
namespace Go.Proofs
open Go.Ide Go.IntWalk

end Go.Proofs


/-
  Chances forward; ChanceOf.
-/
namespace Go.Proofs
open Go.Ide Go.IntWalk

end Go.Proofs


/-
  Two models that meet; MeetChance.
-/
namespace Go.Proofs
open Go.Ide Go.IntWalk

section
variable {a a' b : Nat} {fs ss hs fs' ss' hs' : List Nat}

end

end Go.Proofs


/-
  Lists of finite numbers; lists one after another; ForwardOf, NextLetters.
-/
namespace Go.Proofs
open Go.Ide Go.IntWalk

end Go.Proofs


/-
  All words of a length; ApartModels.
-/
namespace Go.Proofs
open Go.Ide Go.IntWalk

def extN (b : Nat) (ws : List (List Int)) : Nat → List (List Int)
  | 0 => []
  | i + 1 => extN b ws i ++ (List.range b).map fun (l : Nat) => ws.getD i [] ++ [(l : Int)]

def allW (b : Nat) : Nat → List (List Int)
  | 0 => [[]]
  | n + 1 => extN b (allW b n) (allW b n).length

theorem extN_len (b : Nat) (ws : List (List Int)) : ∀ i, (extN b ws i).length = i * b
  | 0 => by simp [extN]
  | i + 1 => by rw [extN, List.length_append, extN_len b ws i, Nat.succ_mul]; simp

theorem extN_mem {b : Nat} {ws : List (List Int)} {w : List Int} : ∀ {i : Nat}, i ≤ ws.length → w ∈ extN b ws i → ∃ v ∈ ws, ∃ l : Nat, l < b ∧ w = v ++ [(l : Int)]
  | 0, _, h => by simp [extN] at h
  | i + 1, hi, h => by
    rw [extN] at h
    rcases List.mem_append.1 h with h | h
    · exact extN_mem (by omega) h
    · obtain ⟨l, hl, rfl⟩ := List.mem_map.1 h
      refine ⟨ws.getD i [], ?_, l, List.mem_range.1 hl, rfl⟩
      rw [List.getD_eq_getElem?_getD, List.getElem?_eq_getElem (by omega)]
      exact List.getElem_mem _

theorem allW_len (b : Nat) : ∀ n, (allW b n).length = b ^ n
  | 0 => rfl
  | n + 1 => by rw [allW, extN_len, allW_len b n, Nat.pow_succ]

theorem allW_le {b n : Nat} (hb : b ≤ 4) (hn : n ≤ 12) : (allW b n).length ≤ 16777216 := by
  rw [allW_len]
  calc b ^ n ≤ 4 ^ n := Nat.pow_le_pow_left hb n
    _ ≤ 4 ^ 12 := Nat.pow_le_pow_right (by omega) hn
    _ = 16777216 := by decide

theorem getD_snoc {v : List Int} {x : Int} {i : Nat} : (v ++ [x]).getD i 0 = if i < v.length then v.getD i 0 else if i = v.length then x else 0 := by
  simp only [List.getD_eq_getElem?_getD]
  by_cases h : i < v.length
  · rw [if_pos h, List.getElem?_append_left h]
  · rw [if_neg h, List.getElem?_append_right (by omega)]
    by_cases e : i = v.length
    · rw [if_pos e]; simp [e]
    · rw [if_neg e]
      rw [List.getElem?_eq_none (by simp; omega)]
      rfl

theorem allW_mem {b : Nat} : ∀ {n : Nat} {w : List Int}, w ∈ allW b n → w.length = n ∧ Letters b w
  | 0, w, h => by
    have : w = [] := by simpa [allW] using h
    subst this
    exact ⟨rfl, fun i hi => by simp at hi⟩
  | n + 1, w, h => by
    obtain ⟨v, hv, l, hl, rfl⟩ := extN_mem (Nat.le_refl _) h
    obtain ⟨h1, h2⟩ := allW_mem hv
    refine ⟨by simp [h1], fun i hi => ?_⟩
    rw [getD_snoc]
    by_cases e : i < v.length
    · rw [if_pos e]; exact h2 i e
    · rw [if_neg e, if_pos (by simp at hi; omega)]; exact ⟨l, rfl, hl⟩

theorem allW_get {b n i : Nat} (h : i < (allW b n).length) : ((allW b n).getD i []).length = n ∧ Letters b ((allW b n).getD i []) := by
  refine allW_mem ?_
  rw [List.getD_eq_getElem?_getD, List.getElem?_eq_getElem h]
  exact List.getElem_mem _

theorem implAll {b : Nat} (hb : b ≤ 4) (n : Nat) (hn : n ≤ 12) : impl_wordsOf (b : Int) (n : Int) = some (allW b n) := by
  have := rounds_forS (f := impl_wordsOf_B3 (b : Int) (n : Int)) (fun i ws => (((i : Nat) : Int), ws)) (fun i ws => extN b ws ws.length) id (n := n) (fun i ws => ws = allW b i)
    (fun i ws hi hw => ⟨by
      have hlw : ws.length ≤ 16777216 := by rw [hw]; exact allW_le hb (by omega)
      have hle : ws.length * b ≤ 16777216 * 4 := Nat.mul_le_mul hlw hb
      have := rounds_forS (f := impl_wordsOf_B2 (b : Int) (((i : Nat) : Int), ws)) (fun j out => (((j : Nat) : Int), out)) (fun j out => out ++ (List.range b).map fun (l : Nat) => ws.getD j [] ++ [(l : Int)]) id (n := ws.length) (fun j out => out = extN b ws j)
        (fun j out hj ho => ⟨by
          have hw2 : (ws.getD j []).length ≤ 12 := by
            rw [hw] at hj ⊢
            rw [(allW_get hj).1]; omega
          have hol : out.length + b ≤ 16777216 * 4 := by
            rw [ho, extN_len]
            have : (j + 1) * b ≤ ws.length * b := Nat.mul_le_mul_right _ hj
            rw [Nat.succ_mul] at this
            omega
          have := loop_app (f := impl_wordsOf_B1 (b : Int) (((i : Nat) : Int), ws) (((j : Nat) : Int), out)) (fun (l : Nat) => ws.getD j [] ++ [(l : Int)]) b out
            (fun l out' hl ho' => by
              have hcl : slices_Clone (ws.getD j []) = some (ws.getD j []) := by
                unfold slices_Clone
                rw [guard_pos (by simp only [appMax]; omega)]
              unfold impl_wordsOf_B1
              simp only [ltN hl, cond_true, Int.toNat_natCast, hcl, Option.bind_some, nextN hl (show b ≤ 4294967296 by omega)]
              rw [guard_pos (by simp only [List.length_singleton, appMax]; omega), guard_pos (by simp only [List.length_singleton, appMax]; omega)])
            (fun out' => by
              unfold impl_wordsOf_B1
              simp only [geN (Nat.le_refl _), cond_false])
          unfold impl_wordsOf_B2
          simp only [ltN hj, cond_true, guard_pos (idxN hj), this, Option.bind_some, nextN hj (show ws.length ≤ 4294967296 by omega)], by rw [ho]; rfl⟩)
        (fun out _ => by
          unfold impl_wordsOf_B2
          simp only [geN (Nat.le_refl _), cond_false]; rfl) ws.length 0 [] (by omega) rfl
      simp only [Int.natCast_zero] at this
      unfold impl_wordsOf_B3
      simp only [ltN hi, cond_true, this.1, id, Option.bind_some, nextN hi (show n ≤ 4294967296 by omega)]
      rw [this.2], by rw [hw]; rfl⟩)
    (fun ws _ => by
      unfold impl_wordsOf_B3
      simp only [geN (Nat.le_refl _), cond_false]; rfl) n 0 [[]] (by omega) rfl
  simp only [Int.natCast_zero] at this
  unfold impl_wordsOf
  rw [this.1]
  simp only [id, Option.bind_some, this.2]

end Go.Proofs


/-
  The first loop that is read.
-/
namespace Go.Proofs
open Go.Ide Go.IntWalk

def digW (b : Nat) : Nat → Nat → List Int
  | 0, _ => []
  | n + 1, i => digW b n (i / b) ++ [((i % b : Nat) : Int)]

theorem digW_len (b : Nat) : ∀ n i, (digW b n i).length = n
  | 0, _ => rfl
  | n + 1, i => by rw [digW, List.length_append, digW_len b n]; rfl

theorem extN_get {b : Nat} {ws : List (List Int)} (hb : 0 < b) : ∀ {k i : Nat}, k ≤ ws.length → i < k * b → (extN b ws k).getD i [] = ws.getD (i / b) [] ++ [((i % b : Nat) : Int)]
  | 0, i, _, hi => by omega
  | k + 1, i, hk, hi => by
    rw [extN]
    simp only [List.getD_eq_getElem?_getD]
    by_cases hlt : i < k * b
    · rw [List.getElem?_append_left (by rw [extN_len]; exact hlt), ← List.getD_eq_getElem?_getD, extN_get hb (by omega) hlt, List.getD_eq_getElem?_getD]
    · rw [Nat.succ_mul] at hi
      rw [List.getElem?_append_right (by rw [extN_len]; omega), extN_len]
      have e1 : i / b = k := by
        rw [Nat.div_eq_iff hb]
        constructor <;> omega
      have e2 : i % b = i - k * b := by
        have := Nat.div_add_mod i b
        rw [e1, Nat.mul_comm] at this
        omega
      rw [e1, e2]
      simp [List.getElem?_map, show i - k * b < b by omega]

theorem allW_dig {b : Nat} (hb : 0 < b) : ∀ (n i : Nat), i < b ^ n → (allW b n).getD i [] = digW b n i
  | 0, i, hi => by
    have : i = 0 := by simpa using hi
    subst this
    rfl
  | n + 1, i, hi => by
    rw [Nat.pow_succ] at hi
    rw [allW, extN_get hb (Nat.le_refl _) (by rw [allW_len]; exact hi), allW_dig hb n (i / b) ((Nat.div_lt_iff_lt_mul hb).2 hi), digW]

theorem digW_zero (b : Nat) : ∀ n, digW b n 0 = List.replicate n 0
  | 0 => rfl
  | n + 1 => by
    rw [digW, Nat.zero_div, Nat.zero_mod, digW_zero b n, List.replicate_succ']
    rfl

def incF (b : Nat) : Nat → List Int → Bool × List Int
  | 0, w => (false, w)
  | k + 1, w => if w.getD k 0 + 1 < (b : Int) then (true, w.set k (w.getD k 0 + 1)) else incF b k (w.set k 0)

theorem getD_at {l r : List Int} {x d : Int} {k : Nat} (h : l.length = k) : (l ++ x :: r).getD k d = x := by
  subst h
  simp [List.getD_eq_getElem?_getD]

theorem incF_dig {b : Nat} (hb : 0 < b) : ∀ (n i : Nat) (s : List Int), i < b ^ n → incF b n (digW b n i ++ s) = (decide (i + 1 < b ^ n), (if i + 1 < b ^ n then digW b n (i + 1) else digW b n 0) ++ s)
  | 0, i, s, hi => by
    have : i = 0 := by simpa using hi
    subst this
    rfl
  | n + 1, i, s, hi => by
    rw [Nat.pow_succ] at hi ⊢
    have hq : i / b < b ^ n := (Nat.div_lt_iff_lt_mul hb).2 hi
    have hl := digW_len b n (i / b)
    have hm := Nat.mod_lt i hb
    have hdm := Nat.div_add_mod i b
    rw [incF, digW, List.append_assoc, List.singleton_append, getD_at hl]
    by_cases h1 : i % b + 1 < b
    · have hd : (i + 1) / b = i / b := by
        rw [Nat.div_eq_iff hb]
        rw [Nat.mul_comm] at hdm
        constructor <;> omega
      have hmm : (i + 1) % b = i % b + 1 := by
        have := Nat.div_add_mod (i + 1) b
        rw [hd] at this
        omega
      have hlt : i + 1 < b ^ n * b := by
        rw [← Nat.div_lt_iff_lt_mul hb, hd]; exact hq
      rw [if_pos (by omega), set_at hl, if_pos hlt, decide_eq_true hlt, digW, hd, hmm, List.append_assoc]
      simp
    · have hd : (i + 1) / b = i / b + 1 := by
        rw [Nat.div_eq_iff hb, Nat.add_mul]
        rw [Nat.mul_comm] at hdm
        constructor <;> omega
      have hmm : (i + 1) % b = 0 := by
        have := Nat.div_add_mod (i + 1) b
        rw [hd, Nat.mul_add] at this
        omega
      rw [if_neg (by omega), set_at hl, incF_dig hb n (i / b) (0 :: s) hq]
      have hiff : i + 1 < b ^ n * b ↔ i / b + 1 < b ^ n := by rw [← Nat.div_lt_iff_lt_mul hb, hd]
      by_cases h2 : i / b + 1 < b ^ n
      · rw [if_pos h2, decide_eq_true h2, if_pos (hiff.2 h2), decide_eq_true (hiff.2 h2), digW, hd, hmm, List.append_assoc]
        rfl
      · rw [if_neg h2, decide_eq_false h2, if_neg (fun h => h2 (hiff.1 h)), decide_eq_false (fun h => h2 (hiff.1 h)), digW, Nat.zero_div, Nat.zero_mod, List.append_assoc]
        rfl

theorem digW_letters {b : Nat} (hb : 0 < b) : ∀ (n i : Nat), Letters b (digW b n i)
  | 0, _ => fun j hj => by simp [digW] at hj
  | n + 1, i => fun j hj => by
    rw [digW_len] at hj
    have hl := digW_len b n (i / b)
    rw [digW, getD_snoc, hl]
    by_cases e : j < n
    · rw [if_pos e]; exact digW_letters hb n (i / b) j (by rw [hl]; exact e)
    · rw [if_neg e, if_pos (by omega)]; exact ⟨_, rfl, Nat.mod_lt _ hb⟩

theorem Letters.take {b : Nat} {w : List Int} (h : Letters b w) (k : Nat) : Letters b (w.take k) := fun i hi => by
  simp only [List.length_take] at hi
  have := h i (by omega)
  rw [List.getD_eq_getElem?_getD, List.getElem?_take_of_lt (by omega), ← List.getD_eq_getElem?_getD]
  exact this

theorem Letters.drop {b : Nat} {w : List Int} (h : Letters b w) (k : Nat) : Letters b (w.drop k) := fun i hi => by
  simp only [List.length_drop] at hi
  have := h (k + i) (by omega)
  rw [List.getD_eq_getElem?_getD, List.getElem?_drop, ← List.getD_eq_getElem?_getD]
  exact this

structure FoundL (m c : Nat) (nx : List Int) (es : List Bool) (x : List Int × List Int) : Prop where
  l1 : x.1.length ≤ 12
  l2 : x.2.length ≤ 12
  l0 : 1 ≤ x.2.length
  a1 : Letters c x.1
  a2 : Letters c x.2
  rd : readsB (statesP m c nx x.1 x.2) es = true

section
variable {m c : Nat} {nx : List Int} {es : List Bool} (hp : Plain m c nx es)
include hp

omit hp in
theorem specInc : ∀ (k : Nat) (w : List Int), k ≤ w.length → w.length ≤ 1000 → (∀ i, i < w.length → 0 ≤ w.getD i 0 ∧ w.getD i 0 ≤ 1000) →
    rounds (spec_FirstLoop_B1 ((m : Int), (c : Int), nx, es)) (false, ((k : Nat) : Int) - 1, w) = some (incF c k w)
  | 0, w, _, _, _ => by
    rw [rounds_eq]
    rfl
  | k + 1, w, hk, hl, hw => by
    have e1 : ((k + 1 : Nat) : Int) - 1 = (k : Int) := by omega
    have hb := hw k (by omega)
    have hx : wadd .i64 (w.getD k 0) 1 = w.getD k 0 + 1 := waddI (by omega)
    have hset : (w.set k (w.getD k 0 + 1)).getD k 0 = w.getD k 0 + 1 := by
      simp [List.getD_eq_getElem?_getD, show k < w.length by omega]
    have hstep : spec_FirstLoop_B1 ((m : Int), (c : Int), nx, es) (false, (k : Int), w) = some (.inl (decide (w.getD k 0 + 1 < (c : Int)), (k : Int) - 1, if w.getD k 0 + 1 < (c : Int) then w.set k (w.getD k 0 + 1) else w.set k 0)) := by
      unfold spec_FirstLoop_B1
      simp only [decide_eq_true (show (k : Int) ≥ 0 by omega), cond_true, Bool.not_false, Option.bind_some, Int.toNat_natCast, hx, hset]
      rw [guard_pos (idxN (i := k) (n := w.length) (by omega)), guard_pos (by simp only [lenI, List.length_set]; omega), wsubI (by omega)]
      by_cases h : w.getD k 0 + 1 < (c : Int)
      · rw [if_pos h]
        simp only [decide_eq_true h, Bool.not_true, cond_false, Option.bind_some]
      · rw [if_neg h]
        simp only [decide_eq_false h, Bool.not_false, cond_true, Option.bind_some, List.set_set]
    rw [rounds_eq, e1, hstep, incF]
    by_cases h : w.getD k 0 + 1 < (c : Int)
    · rw [if_pos h, if_pos h, decide_eq_true h]
      show rounds (spec_FirstLoop_B1 ((m : Int), (c : Int), nx, es)) (true, (k : Int) - 1, w.set k (w.getD k 0 + 1)) = _
      have hend : spec_FirstLoop_B1 ((m : Int), (c : Int), nx, es) (true, (k : Int) - 1, w.set k (w.getD k 0 + 1)) = some (.inr (true, w.set k (w.getD k 0 + 1))) := by
        unfold spec_FirstLoop_B1
        cases decide ((k : Int) - 1 ≥ 0) <;> rfl
      rw [rounds_eq, hend]
    · rw [if_neg h, if_neg h, decide_eq_false h]
      exact specInc k (w.set k 0) (by simp; omega) (by simpa using hl) (fun i hi => by
        by_cases e : i = k
        · subst e
          simp [List.getD_eq_getElem?_getD, show i < w.length by omega]
        · have := hw i (by simpa using hi)
          rw [List.getD_eq_getElem?_getD, List.getElem?_set_ne (by omega), ← List.getD_eq_getElem?_getD]
          exact this)

theorem firstW {h N : Nat} (hh : h < N) (hN : N ≤ 12) : ∃ r, rounds (spec_FirstLoop_B2 ((m : Int), (c : Int), nx, es) (h : Int)) (true, List.replicate N 0) = some r ∧
    rounds (impl_FirstLoop_B1 ((m : Int), (c : Int), nx, es) (h : Int) (allW c N)) 0 = some r ∧ (∀ x, r = .inr x → FoundL m c nx es x) := by
  have hc1 := hp.c1
  have hc2 := hp.c2
  have hlen : (allW c N).length = c ^ N := allW_len c N
  have hle : (allW c N).length ≤ 16777216 := allW_le hc2 hN
  have hcp : 0 < c ^ N := Nat.pow_pos (by omega)
  have := rounds_rel (f := spec_FirstLoop_B2 ((m : Int), (c : Int), nx, es) (h : Int)) (g := impl_FirstLoop_B1 ((m : Int), (c : Int), nx, es) (h : Int) (allW c N))
    (fun k s t => k ≤ c ^ N ∧ t = (((c ^ N - k : Nat)) : Int) ∧ s.1 = decide (0 < k) ∧ (0 < k → s.2 = digW c N (c ^ N - k))) (fun r r' => r = r' ∧ (∀ x, r = .inr x → FoundL m c nx es x))
    (fun k s t ⟨h1, h2, h3, h4⟩ => by
      obtain ⟨mo, w⟩ := s
      simp only at h3 h4
      subst h2 h3
      cases k with
      | zero =>
        refine .inr ⟨_, _, rfl, ?_, rfl, fun x hx => by cases hx⟩
        unfold impl_FirstLoop_B1
        simp only [lenI, hlen, Nat.sub_zero, geN (Nat.le_refl _), cond_false]
      | succ k =>
        have h4 := h4 (by omega)
        subst h4
        have hi : c ^ N - (k + 1) < c ^ N := by omega
        have hd := allW_dig (b := c) (by omega) N (c ^ N - (k + 1)) hi
        have hL := digW_letters (b := c) (by omega) N (c ^ N - (k + 1))
        have hwl := digW_len c N (c ^ N - (k + 1))
        have hcut1 : cut (digW c N (c ^ N - (k + 1))) 0 (h : Int) = (digW c N (c ^ N - (k + 1))).take h := by
          unfold cut; simp
        have hcut2 : cut (digW c N (c ^ N - (k + 1))) (h : Int) (lenI (digW c N (c ^ N - (k + 1)))) = (digW c N (c ^ N - (k + 1))).drop h := by
          unfold cut
          simp only [lenI, Int.toNat_natCast]
          rw [List.take_of_length_le (by simp)]
        have hdr : List.take ((lenI (digW c N (c ^ N - (k + 1)))).toNat - h) (List.drop h (digW c N (c ^ N - (k + 1)))) = (digW c N (c ^ N - (k + 1))).drop h := by
          simp only [lenI, Int.toNat_natCast]
          rw [List.take_of_length_le (by simp)]
        have hdr2 : List.take ((digW c N (c ^ N - (k + 1))).length - h) (List.drop h (digW c N (c ^ N - (k + 1)))) = (digW c N (c ^ N - (k + 1))).drop h := by
          rw [List.take_of_length_le (by simp)]
        have l1 : ((digW c N (c ^ N - (k + 1))).take h).length ≤ 1000 := by simp only [List.length_take]; omega
        have l2 : ((digW c N (c ^ N - (k + 1))).drop h).length ≤ 1000 := by simp only [List.length_drop]; omega
        have r1 := spec_reads hp (hL.take h) (hL.drop h) l1 l2
        have r2 := impl_reads hp (hL.take h) (hL.drop h) l1 l2
        have hcl : ∀ xs : List Int, xs.length ≤ 1000 → slices_Clone xs = some xs := fun xs hx => by
          unfold slices_Clone
          rw [guard_pos (by simp only [appMax]; omega)]
        have hinc := specInc (m := m) (c := c) (nx := nx) (es := es) N (digW c N (c ^ N - (k + 1))) (by omega) (by omega) (fun i hi => by
          obtain ⟨a, ha, ha2⟩ := hL i hi
          rw [ha]
          omega)
        have hdig := incF_dig (b := c) (by omega) N (c ^ N - (k + 1)) [] hi
        rw [List.append_nil, List.append_nil] at hdig
        rw [hdig] at hinc
        cases hb : readsB (statesP m c nx ((digW c N (c ^ N - (k + 1))).take h) ((digW c N (c ^ N - (k + 1))).drop h)) es with
        | true =>
          refine .inr ⟨.inr ((digW c N (c ^ N - (k + 1))).take h, (digW c N (c ^ N - (k + 1))).drop h), .inr ((digW c N (c ^ N - (k + 1))).take h, (digW c N (c ^ N - (k + 1))).drop h), ?_, ?_, rfl, fun x hx => ?_⟩
          · unfold spec_FirstLoop_B2
            simp only [decide_eq_true (show 0 < k + 1 by omega), cond_true, Int.toNat_natCast, List.drop_zero, hdr, hdr2, r1, hb, Option.bind_some]
            rw [guard_pos (by simp only [lenI]; omega)]
          · unfold impl_FirstLoop_B1
            simp only [ltN (show c ^ N - (k + 1) < (allW c N).length by omega), cond_true, Int.toNat_natCast, hd, hcut1, hcut2, hcl _ l1, hcl _ l2, r2, hb, Option.bind_some]
            rw [guard_pos (idxN (by omega)), guard_pos (by simp only [lenI]; omega)]
          · injection hx with hx
            subst hx
            exact ⟨by simp only [List.length_take]; omega, by simp only [List.length_drop]; omega, by simp only [List.length_drop]; omega, hL.take h, hL.drop h, hb⟩
        | false =>
          refine .inl ⟨k, (decide (0 < k), if c ^ N - (k + 1) + 1 < c ^ N then digW c N (c ^ N - (k + 1) + 1) else digW c N 0), ((c ^ N - k : Nat) : Int), by omega, ?_, ?_, by omega, rfl, rfl, fun h0 => ?_⟩
          · unfold spec_FirstLoop_B2
            simp only [decide_eq_true (show 0 < k + 1 by omega), cond_true, Int.toNat_natCast, List.drop_zero, hdr, hdr2, r1, hb, Option.bind_some, cond_false]
            rw [guard_pos (by simp only [lenI]; omega)]
            have e : wsub .i64 (lenI (digW c N (c ^ N - (k + 1)))) 1 = (N : Int) - 1 := by
              simp only [lenI, hwl]
              rw [wsubI (by omega)]
            rw [e, hinc]
            have e2 : decide (c ^ N - (k + 1) + 1 < c ^ N) = decide (0 < k) := by
              rw [decide_eq_decide]; omega
            simp only [Option.bind_some, e2]
          · unfold impl_FirstLoop_B1
            simp only [ltN (show c ^ N - (k + 1) < (allW c N).length by omega), cond_true, Int.toNat_natCast, hd, hcut1, hcut2, hcl _ l1, hcl _ l2, r2, hb, Option.bind_some, cond_false, nextN (show c ^ N - (k + 1) < c ^ N by omega) (by omega)]
            rw [guard_pos (idxN (by omega)), guard_pos (by simp only [lenI]; omega), show c ^ N - (k + 1) + 1 = c ^ N - k by omega]
          · simp only
            rw [if_pos (by omega), show c ^ N - (k + 1) + 1 = c ^ N - k by omega])
    (c ^ N) (true, List.replicate N 0) 0 ⟨Nat.le_refl _, by rw [Nat.sub_self]; rfl, by rw [decide_eq_true hcp], fun _ => by rw [Nat.sub_self, digW_zero]⟩
  obtain ⟨r, r', h1, h2, h3, h4⟩ := this
  subst h3
  exact ⟨r, h1, h2, h4⟩

theorem firstR {h M : Nat} (hh : h ≤ M) (hM : M ≤ 3) : ∃ r, rounds (spec_FirstLoop_B3 ((m : Int), (c : Int), nx, es) (M : Int) (h : Int)) 1 = some r ∧
    rounds (impl_FirstLoop_B2 ((m : Int), (c : Int), nx, es) (M : Int) (h : Int)) 0 = some r ∧ (∀ x, r = .inr x → FoundL m c nx es x) := by
  have hc2 := hp.c2
  have := rounds_rel (f := spec_FirstLoop_B3 ((m : Int), (c : Int), nx, es) (M : Int) (h : Int)) (g := impl_FirstLoop_B2 ((m : Int), (c : Int), nx, es) (M : Int) (h : Int))
    (fun k s t => k ≤ M ∧ t = ((M - k : Nat) : Int) ∧ s = ((M - k + 1 : Nat) : Int)) (fun r r' => r = r' ∧ (∀ x, r = .inr x → FoundL m c nx es x))
    (fun k s t ⟨h1, h2, h3⟩ => by
      subst h2 h3
      cases k with
      | zero =>
        refine .inr ⟨.inl (), .inl (), ?_, ?_, rfl, fun x hx => by cases hx⟩
        · unfold spec_FirstLoop_B3
          simp only [decide_eq_false (show ¬ ((M - 0 + 1 : Nat) : Int) ≤ (M : Int) by omega), cond_false]
        · unfold impl_FirstLoop_B2
          simp only [decide_eq_false (show ¬ ((M - 0 : Nat) : Int) < (M : Int) by omega), cond_false]
      | succ k =>
        obtain ⟨r, e1, e2, e3⟩ := firstW hp (h := h) (N := h + (M - k)) (by omega) (by omega)
        have hs : wadd .i64 (h : Int) ((M - (k + 1) + 1 : Nat) : Int) = ((h + (M - k) : Nat) : Int) := by rw [waddI (by omega)]; omega
        have ht : wadd .i64 (wadd .i64 (h : Int) ((M - (k + 1) : Nat) : Int)) 1 = ((h + (M - k) : Nat) : Int) := by rw [waddI (a := (h : Int)) (by omega), waddI (by omega)]; omega
        have hwo := implAll hc2 (h + (M - k)) (by omega)
        have n1 : wadd .i64 ((M - (k + 1) + 1 : Nat) : Int) 1 = ((M - k + 1 : Nat) : Int) := by rw [waddI (by omega)]; omega
        have n2 : wadd .i64 ((M - (k + 1) : Nat) : Int) 1 = ((M - k : Nat) : Int) := by rw [waddI (by omega)]; omega
        cases r with
        | inl u =>
          refine .inl ⟨k, ((M - k + 1 : Nat) : Int), ((M - k : Nat) : Int), by omega, ?_, ?_, by omega, rfl, rfl⟩
          · unfold spec_FirstLoop_B3
            simp only [decide_eq_true (show ((M - (k + 1) + 1 : Nat) : Int) ≤ (M : Int) by omega), cond_true, hs, Int.toNat_natCast, e1, Option.bind_some, n1]
            rw [guard_pos (by omega)]
          · unfold impl_FirstLoop_B2
            simp only [decide_eq_true (show ((M - (k + 1) : Nat) : Int) < (M : Int) by omega), cond_true, ht, hwo, e2, Option.bind_some, n2]
        | inr x =>
          refine .inr ⟨.inr x, .inr x, ?_, ?_, rfl, e3⟩
          · unfold spec_FirstLoop_B3
            simp only [decide_eq_true (show ((M - (k + 1) + 1 : Nat) : Int) ≤ (M : Int) by omega), cond_true, hs, Int.toNat_natCast, e1, Option.bind_some]
            rw [guard_pos (by omega)]
          · unfold impl_FirstLoop_B2
            simp only [decide_eq_true (show ((M - (k + 1) : Nat) : Int) < (M : Int) by omega), cond_true, ht, hwo, e2, Option.bind_some])
    M 1 0 ⟨Nat.le_refl _, by rw [Nat.sub_self]; rfl, by rw [Nat.sub_self]; rfl⟩
  obtain ⟨r, r', h1, h2, h3, h4⟩ := this
  subst h3
  exact ⟨r, h1, h2, h4⟩

theorem firstH {M : Nat} (hM : M ≤ 3) : ∃ r, rounds (spec_FirstLoop_B4 ((m : Int), (c : Int), nx, es) (M : Int)) 0 = some r ∧
    rounds (impl_FirstLoop_B3 ((m : Int), (c : Int), nx, es) (M : Int)) 0 = some r ∧ (∀ x, r = .inr x → FoundL m c nx es x) := by
  have hM1 : wadd .i64 (M : Int) 1 = ((M + 1 : Nat) : Int) := by rw [waddI (by omega)]; omega
  have := rounds_rel (f := spec_FirstLoop_B4 ((m : Int), (c : Int), nx, es) (M : Int)) (g := impl_FirstLoop_B3 ((m : Int), (c : Int), nx, es) (M : Int))
    (fun k s t => k ≤ M + 1 ∧ t = ((M + 1 - k : Nat) : Int) ∧ s = t) (fun r r' => r = r' ∧ (∀ x, r = .inr x → FoundL m c nx es x))
    (fun k s t ⟨h1, h2, h3⟩ => by
      subst h2 h3
      cases k with
      | zero =>
        refine .inr ⟨.inl (), .inl (), ?_, ?_, rfl, fun x hx => by cases hx⟩
        · unfold spec_FirstLoop_B4
          simp only [decide_eq_false (show ¬ ((M + 1 - 0 : Nat) : Int) ≤ (M : Int) by omega), cond_false]
        · unfold impl_FirstLoop_B3
          simp only [hM1, decide_eq_false (show ¬ ((M + 1 - 0 : Nat) : Int) < ((M + 1 : Nat) : Int) by omega), cond_false]
      | succ k =>
        obtain ⟨r, e1, e2, e3⟩ := firstR hp (h := M - k) (M := M) (by omega) hM
        have hk : ((M + 1 - (k + 1) : Nat) : Int) = ((M - k : Nat) : Int) := by omega
        have n1 : wadd .i64 ((M - k : Nat) : Int) 1 = ((M + 1 - k : Nat) : Int) := by rw [waddI (by omega)]; omega
        rw [hk]
        cases r with
        | inl u =>
          refine .inl ⟨k, ((M + 1 - k : Nat) : Int), ((M + 1 - k : Nat) : Int), by omega, ?_, ?_, by omega, rfl, rfl⟩
          · unfold spec_FirstLoop_B4
            simp only [decide_eq_true (show ((M - k : Nat) : Int) ≤ (M : Int) by omega), cond_true, e1, Option.bind_some, n1]
          · unfold impl_FirstLoop_B3
            simp only [hM1, decide_eq_true (show ((M - k : Nat) : Int) < ((M + 1 : Nat) : Int) by omega), cond_true, e2, Option.bind_some, n1]
        | inr x =>
          refine .inr ⟨.inr x, .inr x, ?_, ?_, rfl, e3⟩
          · unfold spec_FirstLoop_B4
            simp only [decide_eq_true (show ((M - k : Nat) : Int) ≤ (M : Int) by omega), cond_true, e1, Option.bind_some]
          · unfold impl_FirstLoop_B3
            simp only [hM1, decide_eq_true (show ((M - k : Nat) : Int) < ((M + 1 : Nat) : Int) by omega), cond_true, e2, Option.bind_some])
    (M + 1) 0 0 ⟨Nat.le_refl _, by rw [Nat.sub_self]; rfl, rfl⟩
  obtain ⟨r, r', h1, h2, h3, h4⟩ := this
  subst h3
  exact ⟨r, h1, h2, h4⟩
end

end Go.Proofs


/-
  The source from which the laws draw.
-/
namespace Go.Proofs
open Go.Ide Go.IntWalk

abbrev SrcD := List Int × Int × Int

def BytesI (c : List Int) : Prop := c.length ≤ 1048576 ∧ ∀ i, i < c.length → 0 ≤ c.getD i 0 ∧ c.getD i 0 ≤ 255

theorem bytesI_wf {x : List Int} (w : WfD (.sl (.int .u8)) x) (h : x.length ≤ 1048576) : BytesI x := by
  refine ⟨h, fun i hi => ?_⟩
  have := w.2 i hi
  have h2 : (Lit.int .u8 (x[i] : Int)).wf = true := this
  rw [List.getD_eq_getElem?_getD, List.getElem?_eq_getElem hi]
  simp only [Lit.wf, Bool.and_eq_true, decide_eq_true_eq] at h2
  have e1 : IntKind.u8.min = 0 := by decide
  have e2 : IntKind.u8.max = 255 := by decide
  rw [e1, e2] at h2
  simp only [Option.getD_some]
  omega

structure SrcOK (n : Nat) (s : SrcD) : Prop where
  code : BytesI s.1
  at0 : 0 ≤ s.2.1
  at1 : s.2.1 + (n : Int) ≤ 1000000000000000000

theorem SrcOK.mono {n m : Nat} {s : SrcD} (h : SrcOK n s) (hm : m ≤ n) : SrcOK m s := ⟨h.code, h.at0, by have := h.at1; omega⟩

theorem SrcOK.from {c : List Int} (h : BytesI c) : spec_l00From c = some (c, (0 : Int), (0 : Int)) ∧ SrcOK 1000000000000000000 (c, (0 : Int), (0 : Int)) := ⟨rfl, h, Int.le_refl _, by simp⟩

theorem byte64 (x : Int) (h : 0 ≤ x ∧ x ≤ 255) : IntKind.wrap .i64 x = x := i64_in _ (by omega)

theorem low255 (z : Int) : ∃ y : Int, IntKind.wrap .i64 (IntKind.wrap .u64 (((BitVec.ofInt (IntKind.bits .u64) z &&& BitVec.ofInt (IntKind.bits .u64) (255 : Int)).toNat : Nat) : Int)) = y ∧ 0 ≤ y ∧ y ≤ 255 := by
  have h1 : (BitVec.ofInt (IntKind.bits .u64) z &&& BitVec.ofInt (IntKind.bits .u64) (255 : Int)).toNat ≤ 255 := by
    rw [BitVec.toNat_and]
    refine Nat.le_trans Nat.and_le_right ?_
    decide
  generalize (BitVec.ofInt (IntKind.bits .u64) z &&& BitVec.ofInt (IntKind.bits .u64) (255 : Int)).toNat = q at h1
  have h2 : IntKind.wrap .u64 ((q : Nat) : Int) = (q : Int) := by
    unfold IntKind.wrap
    simp only [IntKind.bits, IntKind.signed, Bool.false_and, Bool.false_eq_true, if_false]
    omega
  rw [h2, i64_in _ (by omega)]
  exact ⟨_, rfl, by omega, by omega⟩

theorem next_ok {n : Nat} {s : SrcD} (h : SrcOK (n + 1) s) : ∃ x s', spec_l00Src_next s = some (x, s') ∧ 0 ≤ x ∧ x ≤ 255 ∧ SrcOK n s' := by
  obtain ⟨c, a, z⟩ := s
  obtain ⟨hc, h0, h1⟩ := h
  have h0 : 0 ≤ a := h0
  have h1 : a + ((n + 1 : Nat) : Int) ≤ 1000000000000000000 := h1
  have e1 : wadd .i64 a 1 = a + 1 := waddI (by omega)
  unfold spec_l00Src_next
  simp only [e1]
  have hs : ∀ z', SrcOK n (c, a + 1, z') := fun z' => ⟨hc, by show 0 ≤ a + 1; omega, by show a + 1 + (n : Int) ≤ _; omega⟩
  have key : ∀ v : Int, 0 ≤ v ∧ v ≤ 255 → ∃ x s', (bif decide (a + 1 ≤ lenI c) then some (v, c, a + 1, wadd .u64 (wadd .u64 (wmul .u64 z 6364136223846793005) (IntKind.wrap .u64 v)) 1442695040888963407)
      else (some (IntKind.wrap .i64 (IntKind.wrap .u64 (((BitVec.ofInt (IntKind.bits .u64) (Int.fdiv (wadd .u64 (wadd .u64 (wmul .u64 z 6364136223846793005) (IntKind.wrap .u64 v)) 1442695040888963407) (2 ^ (min (Int.toNat (40 : Int)) (IntKind.bits .u64)))) &&& BitVec.ofInt (IntKind.bits .u64) (255 : Int)).toNat : Nat) : Int)))).bind fun q5 =>
        some (q5, c, a + 1, wadd .u64 (wadd .u64 (wmul .u64 z 6364136223846793005) (IntKind.wrap .u64 v)) 1442695040888963407)) = some (x, s') ∧ 0 ≤ x ∧ x ≤ 255 ∧ SrcOK n s' := by
    intro v hv
    cases decide (a + 1 ≤ lenI c) with
    | true => exact ⟨_, _, rfl, hv.1, hv.2, hs _⟩
    | false =>
      obtain ⟨y, e, y1, y2⟩ := low255 (Int.fdiv (wadd .u64 (wadd .u64 (wmul .u64 z 6364136223846793005) (IntKind.wrap .u64 v)) 1442695040888963407) (2 ^ (min (Int.toNat (40 : Int)) (IntKind.bits .u64))))
      rw [e]
      exact ⟨_, _, rfl, y1, y2, hs _⟩
  by_cases hlt : a < lenI c
  · have hi : a.toNat < c.length := by simp only [lenI] at hlt; omega
    have hb := hc.2 a.toNat hi
    simp only [hlt, decide_true, cond_true]
    rw [guard_pos ⟨h0, trivial⟩, byte64 _ hb]
    exact key _ hb
  · simp only [hlt, decide_false, cond_false]
    exact key 0 (by omega)

theorem tmod_in {x n : Int} (hx : 0 ≤ x) (hn : 0 < n) : 0 ≤ Int.tmod x n ∧ Int.tmod x n < n := by
  rw [Int.tmod_eq_emod_of_nonneg hx]
  exact ⟨Int.emod_nonneg _ (by omega), Int.emod_lt_of_pos _ hn⟩

theorem pick_ok {n : Nat} {s : SrcD} (h : SrcOK (n + 2) s) (k : Int) : ∃ x s', spec_l00Src_pick s k = some (x, s') ∧ 0 ≤ x ∧ (x < k ∨ x = 0) ∧ SrcOK n s' := by
  unfold spec_l00Src_pick
  by_cases h1 : k ≤ 1
  · simp only [h1, decide_true, cond_true]
    exact ⟨_, _, rfl, Int.le_refl _, .inr rfl, h.mono (by omega)⟩
  · simp only [h1, decide_false, cond_false]
    obtain ⟨x, s1, e1, x1, x2, o1⟩ := next_ok h
    simp only [e1, Option.bind_some]
    by_cases h2 : k > 200
    · obtain ⟨y, s2, e2, y1, y2, o2⟩ := next_ok o1
      have e3 : wmul .i64 x 256 = x * 256 := wmulI (by omega)
      have e4 : wadd .i64 (x * 256) y = x * 256 + y := waddI (by omega)
      simp only [h2, decide_true, cond_true, e2, Option.bind_some, e3, e4]
      rw [guard_pos (by omega)]
      have := tmod_in (x := x * 256 + y) (n := k) (by omega) (by omega)
      exact ⟨_, _, rfl, this.1, .inl this.2, o2⟩
    · simp only [h2, decide_false, cond_false, Option.bind_some]
      rw [guard_pos (by omega)]
      have := tmod_in (x := x) (n := k) (by omega) (by omega)
      exact ⟨_, _, rfl, this.1, .inl this.2, o1.mono (by omega)⟩

theorem b10At_ok {c : List Int} (hc : BytesI c) {i n : Int} (hi : 0 ≤ i ∧ i ≤ 1000000000000) : ∃ x, laws_b10At c i n = some x ∧ 0 ≤ x ∧ (x < n ∨ x = 0) := by
  unfold laws_b10At
  by_cases h1 : n ≤ 1
  · simp only [h1, decide_true, cond_true]
    exact ⟨_, rfl, Int.le_refl _, .inr rfl⟩
  · simp only [h1, decide_false, cond_false]
    by_cases hlt : i < lenI c
    · have hj : i.toNat < c.length := by simp only [lenI] at hlt; omega
      have hb := hc.2 i.toNat hj
      simp only [hlt, decide_true, cond_true]
      rw [guard_pos ⟨hi.1, trivial⟩, guard_pos (by omega), byte64 _ hb]
      have := tmod_in (x := c.getD i.toNat 0) (n := n) hb.1 (by omega)
      exact ⟨_, rfl, this.1, .inl this.2⟩
    · simp only [hlt, decide_false, cond_false]
      rw [guard_pos (by omega), wmulI (by omega), waddI (by omega)]
      have := tmod_in (x := i * 37 + 11) (n := n) (by omega) (by omega)
      exact ⟨_, rfl, this.1, .inl this.2⟩

end Go.Proofs


/-
  A plain machine is drawn.
-/
namespace Go.Proofs
open Go.Ide Go.IntWalk

theorem getD_app {α : Type} {xs ys : List α} {i : Nat} {d : α} : (xs ++ ys).getD i d = if i < xs.length then xs.getD i d else ys.getD (i - xs.length) d := by
  split
  · rename_i h; rw [List.getD_eq_getElem?_getD, List.getElem?_append_left h, List.getD_eq_getElem?_getD]
  · rename_i h; rw [List.getD_eq_getElem?_getD, List.getElem?_append_right (by omega), List.getD_eq_getElem?_getD]

theorem okPlain_mk {m c : Nat} {nx : List Int} {es : List Bool} (m1 : 1 ≤ m) (m2 : m ≤ 64) (c1 : 1 ≤ c) (c2 : c ≤ 4) (hl : nx.length = m * c) (he : es.length = m) (h : ∀ i, i < nx.length → 0 ≤ nx.getD i 0 ∧ nx.getD i 0 < (m : Int)) : okPlain (m : Int) (c : Int) nx es = true := by
  have hmc : m * c ≤ 64 * 4 := Nat.mul_le_mul m2 c2
  unfold okPlain
  rw [wmulI (by rw [← Int.natCast_mul]; omega), ← Int.natCast_mul, wsubI (by omega)]
  simp only [Bool.and_eq_true, decide_eq_true_eq, beq_iff_eq, lenI]
  refine ⟨⟨by omega, by omega⟩, ⟨by omega, by omega⟩, by rw [hl], by rw [he], allIn_iff.2 fun i hi => ?_⟩
  have := h i hi
  omega

theorem drawPlain {g m c : Nat} {s : SrcD} (m1 : 1 ≤ m) (m2 : m ≤ 5) (c1 : 1 ≤ c) (c2 : c ≤ 3) (hs : SrcOK (100 + g) s) :
    ∃ nx es s', spec_l02DrawPlainSides s (m : Int) (c : Int) = some (((m : Int), (c : Int), nx, es), s') ∧ okPlain (m : Int) (c : Int) nx es = true ∧ SrcOK g s' := by
  have hmc : m * c ≤ 5 * 3 := Nat.mul_le_mul m2 c2
  obtain ⟨r, er, r1, r2, r3⟩ := rounds_inv (f := spec_l02DrawPlainSides_B2 (m : Int)) (fun a st => ∃ (s : SrcD) (out : List Int), st = ((a : Int), s, out) ∧ a + out.length = m * c ∧ SrcOK (a * 2 + (50 + g)) s ∧ ∀ i, i < out.length → 0 ≤ out.getD i 0 ∧ out.getD i 0 < (m : Int))
    (fun r => SrcOK (50 + g) r.1 ∧ r.2.length = m * c ∧ ∀ i, i < r.2.length → 0 ≤ r.2.getD i 0 ∧ r.2.getD i 0 < (m : Int)) (by
      rintro a st ⟨s, out, rfl, ha, hs, ho⟩
      unfold spec_l02DrawPlainSides_B2
      by_cases h0 : a = 0
      · subst h0
        have hd : decide (((0 : Nat) : Int) > (0 : Int)) = false := by simp
        simp only [hd, cond_false]
        exact .inr ⟨_, rfl, hs.mono (by omega), by show out.length = _; omega, ho⟩
      · have hd : decide ((a : Int) > (0 : Int)) = true := by simp; omega
        obtain ⟨x, s', e, x1, x2, o⟩ := pick_ok (n := (a - 1) * 2 + (50 + g)) (hs.mono (by omega)) (m : Int)
        have e1 : wsub .i64 (a : Int) 1 = ((a - 1 : Nat) : Int) := by rw [wsubI (by omega)]; omega
        simp only [hd, cond_true, e, Option.bind_some, e1]
        rw [guard_pos (by simp only [List.length_cons, List.length_nil, appMax]; omega)]
        refine .inl ⟨a - 1, _, by omega, rfl, s', out ++ [x], rfl, by simp; omega, o, fun i hi => ?_⟩
        rw [getD_app]
        split
        · rename_i hi2; exact ho i hi2
        · have : i - out.length = 0 := by simp at hi; omega
          rw [this]
          show 0 ≤ x ∧ x < (m : Int)
          omega) (m * c) (((m * c : Nat) : Int), s, ([] : List Int)) ⟨s, [], rfl, by simp, hs.mono (by omega), fun i hi => by simp at hi⟩
  obtain ⟨q, eq, q1, q2⟩ := rounds_inv (f := spec_l02DrawPlainSides_B1 (m : Int)) (fun a st => ∃ (i : Nat) (s : SrcD) (out : List Bool), a + i = m ∧ st = ((i : Int), s, out) ∧ out.length = i ∧ SrcOK (a * 2 + g) s)
    (fun r => SrcOK g r.1 ∧ r.2.length = m) (by
      rintro a st ⟨i, s, out, ha, rfl, hl, hs⟩
      unfold spec_l02DrawPlainSides_B1 spec_l00Src_one
      by_cases h0 : i < m
      · obtain ⟨x, s', e, _, _, o⟩ := pick_ok (n := (a - 1) * 2 + g) (hs.mono (by omega)) (3 : Int)
        simp only [ltN h0, cond_true, e, Option.bind_some, nextN h0 (show m ≤ 4294967296 by omega)]
        rw [guard_pos (by simp only [List.length_cons, List.length_nil, appMax]; omega)]
        exact .inl ⟨a - 1, _, by omega, rfl, i + 1, s', _, by omega, rfl, by simp; omega, o⟩
      · have : i = m := by omega
        subst this
        simp only [geN (Nat.le_refl _), cond_false]
        exact .inr ⟨_, rfl, hs.mono (by omega), hl⟩) m ((0 : Int), r.1, ([] : List Bool)) ⟨0, r.1, [], by omega, rfl, rfl, r1.mono (by omega)⟩
  refine ⟨r.2, q.2, q.1, ?_, okPlain_mk m1 (by omega) c1 (by omega) r2 q2 r3, q1⟩
  unfold spec_l02DrawPlainSides
  rw [wmulI (by rw [← Int.natCast_mul]; omega), ← Int.natCast_mul, er]
  simp only [Option.bind_some]
  rw [eq]
  rfl

end Go.Proofs


/-
  The shortest loop, by the program and by what is expected.
-/
namespace Go.Proofs
open Go.Ide Go.IntWalk


theorem next64 {i n : Nat} (h : i < n) (hn : n ≤ 4294967296) : wadd .i64 (i : Int) 1 = ((i + 1 : Nat) : Int) := by
  rw [show ((i + 1 : Nat) : Int) = (i : Int) + 1 from by omega]; exact i64_in _ (by omega)

theorem getD_drop {α : Type} {xs : List α} {i : Nat} (h : i < xs.length) (d : α) : xs.drop i = xs.getD i d :: xs.drop (i + 1) := by
  rw [List.drop_eq_getElem_cons h, List.getD_eq_getElem?_getD, List.getElem?_eq_getElem h]; rfl

theorem sub64 {a b : Nat} (h : b ≤ a) (ha : a ≤ 4294967296) : wsub .i64 (a : Int) (b : Int) = ((a - b : Nat) : Int) := by
  rw [show ((a - b : Nat) : Int) = (a : Int) - (b : Int) from by omega]; exact i64_in _ (by omega)

theorem per_loop {xs ys : List Int} {q : Int} {p : Nat} (hn : ys.length ≤ 4294967296) (hp : 1 ≤ p) : ∀ (k i : Nat) (ok : Bool), i + k = ys.length → p ≤ i →
    rounds (spec_NormalLoop_B2 (xs, ys) (q, (p : Int))) (ok, (i : Int)) = some (ok && decide (ys.drop i = (ys.drop (i - p)).take k))
  | 0, i, ok, hi, _ => by
    rw [rounds_eq]
    have h1 : decide ((i : Int) < lenI ys) = false := by simp [lenI]; omega
    simp only [spec_NormalLoop_B2, h1, cond_false]
    rw [List.drop_of_length_le (by omega)]
    simp
  | k + 1, i, ok, hi, hpi => by
    rw [rounds_eq]
    have h1 : decide ((i : Int) < lenI ys) = true := by simp [lenI]; omega
    have g1 : (0 : Int) ≤ (i : Int) ∧ (i : Int) < lenI ys := ⟨by omega, by simp [lenI]; omega⟩
    have es := sub64 (a := i) (b := p) hpi (by omega)
    have g2 : (0 : Int) ≤ ((i - p : Nat) : Int) ∧ ((i - p : Nat) : Int) < lenI ys := ⟨by omega, by simp [lenI]; omega⟩
    have ih := fun ok => per_loop (xs := xs) (q := q) hn hp k (i + 1) ok (by omega) (by omega)
    have e1 : ys.drop i = ys.getD i 0 :: ys.drop (i + 1) := getD_drop (by omega) _
    have e2 : ys.drop (i - p) = ys.getD (i - p) 0 :: ys.drop (i + 1 - p) := by
      rw [getD_drop (by omega) (0 : Int), show i - p + 1 = i + 1 - p from by omega]
    rw [e1, e2, List.take_succ_cons]
    cases ok with
    | false =>
      simp only [spec_NormalLoop_B2, h1, cond_true, cond_false, Option.bind_some, next64 (i := i) (n := ys.length) (by omega) hn, ih, Bool.false_and]
    | true =>
      simp only [spec_NormalLoop_B2, h1, cond_true, es, guard_pos g1, guard_pos g2, Option.bind_some, Int.toNat_natCast, next64 (i := i) (n := ys.length) (by omega) hn, ih, Bool.true_and]
      congr 1
      by_cases hc : ys.getD i 0 = ys.getD (i - p) 0
      · rw [hc]
        simp only [beq_self_eq_true, List.cons.injEq, true_and, Bool.true_and]
      · rw [beq_eq_false_iff_ne.2 hc]
        simp only [List.cons.injEq, hc, false_and, decide_false, Bool.false_and]

def perB (ys : List Int) (p : Nat) : Bool := (Int.tmod (lenI ys) (p : Int) == 0) && decide (ys.drop p = ys.take (ys.length - p))

def lowPer (ys : List Int) : Nat → Int → Int
  | 0, best => best
  | p + 1, best => lowPer ys p (if perB ys (p + 1) = true then ((p + 1 : Nat) : Int) else best)

theorem low_loop {xs ys : List Int} (hn : ys.length ≤ 4294967296) : ∀ (p : Nat) (best : Int), p ≤ ys.length →
    rounds (spec_NormalLoop_B3 (xs, ys)) (best, (p : Int)) = some (lowPer ys p best)
  | 0, best, _ => by
    rw [rounds_eq]
    have h1 : decide (((0 : Nat) : Int) ≥ (1 : Int)) = false := by simp
    simp only [spec_NormalLoop_B3, h1, cond_false]
    rfl
  | p + 1, best, hp => by
    rw [rounds_eq]
    have h1 : decide (((p + 1 : Nat) : Int) ≥ (1 : Int)) = true := by simp; omega
    have g1 : ((p + 1 : Nat) : Int) ≠ 0 := by omega
    have h2 := per_loop (xs := xs) (q := best) hn (p := p + 1) (by omega) (ys.length - (p + 1)) (p + 1) (Int.tmod (lenI ys) ((p + 1 : Nat) : Int) == 0) (by omega) (Nat.le_refl _)
    have es : wsub .i64 ((p + 1 : Nat) : Int) 1 = (p : Int) := by
      have := sub64 (a := p + 1) (b := 1) (by omega) (by omega)
      simpa using this
    simp only [spec_NormalLoop_B3, h1, cond_true, guard_pos g1, h2, Option.bind_some, es]
    have e : ((Int.tmod (lenI ys) ((p + 1 : Nat) : Int) == 0) && decide (ys.drop (p + 1) = (ys.drop (p + 1 - (p + 1))).take (ys.length - (p + 1)))) = perB ys (p + 1) := by
      simp [perB]
    rw [e]
    simp only [lowPer]
    cases hb : perB ys (p + 1) <;> simp only [cond_true, cond_false, Option.bind_some, if_true, Bool.false_eq_true, if_false]
    · exact low_loop hn p best (by omega)
    · exact low_loop hn p _ (by omega)

theorem eqLI_iff {xs ys : List Int} : eqL 0 xs ys = true ↔ xs = ys := by
  unfold eqL
  rw [Bool.and_eq_true, beq_iff_eq, allN_iff]
  simp only [lenI]
  constructor
  · rintro ⟨h1, h2⟩
    have h1 : xs.length = ys.length := by omega
    refine List.ext_getElem h1 fun i a b => ?_
    have := h2 i (by omega) (by omega)
    rw [beq_iff_eq, List.getD_eq_getElem?_getD, List.getD_eq_getElem?_getD, List.getElem?_eq_getElem a, List.getElem?_eq_getElem b] at this
    exact this
  · rintro rfl
    exact ⟨rfl, fun i _ _ => beq_self_eq_true _⟩

theorem equalS64 {xs ys : List Int} (h : xs.length ≤ 4294967296) : slices_Equal___int64_int64 xs ys = some (decide (xs = ys)) := by
  rw [equalI h]
  congr 1
  rw [Bool.eq_iff_iff, eqLI_iff, decide_eq_true_eq]

def firstPer (ys : List Int) : Nat → Nat → Option Nat
  | 0, _ => none
  | k + 1, p => if perB ys p = true then some p else firstPer ys k (p + 1)

theorem root_loop {ys : List Int} (hn : ys.length ≤ 4294967296) : ∀ (k p : Nat), p + k = ys.length → 1 ≤ p →
    rounds (impl_root_B1 ys) (p : Int) = some (match firstPer ys k p with
      | some q => .inr (ys.take q)
      | none => .inl ())
  | 0, p, hp, _ => by
    rw [rounds_eq]
    have h1 : decide ((p : Int) < lenI ys) = false := by simp [lenI]; omega
    simp only [impl_root_B1, h1, cond_false]
    rfl
  | k + 1, p, hp, h1p => by
    rw [rounds_eq]
    have h1 : decide ((p : Int) < lenI ys) = true := by simp [lenI]; omega
    have g0 : (p : Int) ≠ 0 := by omega
    have es : wsub .i64 (lenI ys) (p : Int) = ((ys.length - p : Nat) : Int) := sub64 (a := ys.length) (b := p) (by omega) hn
    have g1 : (0 : Int) ≤ (p : Int) ∧ (p : Int) ≤ lenI ys := ⟨by omega, by simp [lenI]; omega⟩
    have g2 : (0 : Int) ≤ ((ys.length - p : Nat) : Int) ∧ ((ys.length - p : Nat) : Int) ≤ lenI ys := ⟨by omega, by simp [lenI]⟩
    have c1 : cut ys (p : Int) (lenI ys) = ys.drop p := by
      simp only [cut, lenI, Int.toNat_natCast]
      rw [List.take_of_length_le (by rw [List.length_drop]; omega)]
    have c2 : cut ys (0 : Int) ((ys.length - p : Nat) : Int) = ys.take (ys.length - p) := by simp [cut]
    have c3 : cut ys (0 : Int) (p : Int) = ys.take p := by simp [cut]
    have ih := root_loop hn k (p + 1) (by omega) (by omega)
    have eb : (show Option Bool from bif (Int.tmod (lenI ys) (p : Int) == (0 : Int)) then guardP ((0 : Int) ≤ (p : Int) ∧ (p : Int) ≤ lenI ys) (guardP ((0 : Int) ≤ ((ys.length - p : Nat) : Int) ∧ ((ys.length - p : Nat) : Int) ≤ lenI ys) (some (decide (ys.drop p = ys.take (ys.length - p))))) else some false) = some (perB ys p) := by
      rw [guard_pos g1, guard_pos g2]
      unfold perB
      cases (Int.tmod (lenI ys) (p : Int) == (0 : Int)) <;> rfl
    simp only [impl_root_B1, h1, cond_true, guard_pos g0, es, c1, c2, c3, equalS64 (xs := ys.drop p) (by rw [List.length_drop]; omega), Option.bind_some, next64 (i := p) (n := ys.length) (by omega) hn]
    simp only at eb
    rw [eb]
    simp only [Option.bind_some, firstPer]
    cases hb : perB ys p with
    | true => simp only [cond_true, guard_pos g1, if_true]
    | false => simp only [cond_false, Bool.false_eq_true, if_false]; exact ih

theorem firstPer_snoc {ys : List Int} : ∀ (k p : Nat), firstPer ys (k + 1) p = (firstPer ys k p).or (if perB ys (p + k) = true then some (p + k) else none)
  | 0, p => by simp [firstPer]
  | k + 1, p => by
    rw [firstPer, firstPer_snoc k (p + 1), firstPer]
    by_cases h : perB ys p = true
    · simp [h]
    · simp only [h, if_false]
      rw [show p + 1 + k = p + (k + 1) from by omega]
      simp

theorem lowPer_first {ys : List Int} : ∀ (p : Nat) (best : Int), lowPer ys p best = (match firstPer ys p 1 with
    | some q => ((q : Nat) : Int)
    | none => best)
  | 0, best => rfl
  | p + 1, best => by
    rw [lowPer, lowPer_first p, firstPer_snoc]
    cases firstPer ys p 1 with
    | some q => rfl
    | none =>
      rw [show 1 + p = p + 1 from by omega]
      cases perB ys (p + 1) <;> rfl

def turnB (s : List Int × List Int) : Bool := decide (lenI s.1 > 0) && (List.getD s.1 (s.1.length - 1) (0 : Int) == List.getD s.2 (s.2.length - 1) (0 : Int))
def turned (s : List Int × List Int) : List Int × List Int := (s.1.take (s.1.length - 1), List.getD s.2 (s.2.length - 1) (0 : Int) :: s.2.take (s.2.length - 1))

theorem impl_turn {s : List Int × List Int} (h1 : 1 ≤ s.2.length) (h2 : s.2.length ≤ 1000000) (h3 : s.1.length ≤ 1000000) : impl_NormalLoop_B1 s = some (if turnB s = true then .inl (turned s) else .inr (s.1, s.2)) := by
  have e2 : wsub .i64 (lenI s.2) (1 : Int) = ((s.2.length - 1 : Nat) : Int) := sub64 (a := s.2.length) (b := 1) h1 (by omega)
  have g2 : (0 : Int) ≤ ((s.2.length - 1 : Nat) : Int) ∧ ((s.2.length - 1 : Nat) : Int) < lenI s.2 := ⟨by omega, by simp only [lenI]; omega⟩
  have g2' : (0 : Int) ≤ ((s.2.length - 1 : Nat) : Int) ∧ ((s.2.length - 1 : Nat) : Int) ≤ lenI s.2 := ⟨by omega, by simp only [lenI]; omega⟩
  unfold impl_NormalLoop_B1 turnB
  by_cases h0 : lenI s.1 > 0
  · have h0' : 1 ≤ s.1.length := by simp only [lenI] at h0; omega
    have e1 : wsub .i64 (lenI s.1) (1 : Int) = ((s.1.length - 1 : Nat) : Int) := sub64 (a := s.1.length) (b := 1) h0' (by omega)
    have g1 : (0 : Int) ≤ ((s.1.length - 1 : Nat) : Int) ∧ ((s.1.length - 1 : Nat) : Int) < lenI s.1 := ⟨by omega, by simp only [lenI]; omega⟩
    have g1' : (0 : Int) ≤ ((s.1.length - 1 : Nat) : Int) ∧ ((s.1.length - 1 : Nat) : Int) ≤ lenI s.1 := ⟨by omega, by simp only [lenI]; omega⟩
    have ga : List.length ([(List.getD s.2 (s.2.length - 1) (0 : Int))] : List Int) + List.length (List.take (s.2.length - 1) (List.drop 0 s.2)) ≤ appMax := by
      simp [appMax]; omega
    simp only [h0, decide_true, cond_true, e1, e2, guard_pos g1, guard_pos g2, guard_pos g1', guard_pos g2', Int.toNat_natCast, Option.bind_some, Bool.true_and, guard_pos ga]
    rcases Bool.eq_false_or_eq_true (List.getD s.1 (s.1.length - 1) (0 : Int) == List.getD s.2 (s.2.length - 1) (0 : Int)) with hc | hc
    · simp only [hc, cond_true, if_true]; rfl
    · simp only [hc, cond_false]; rfl
  · simp only [h0, decide_false, cond_false, Option.bind_some, Bool.false_and]
    rfl

theorem spec_turn {r : Int} {s : List Int × List Int} (hr : r = (s.2.length : Int)) (h1 : 1 ≤ s.2.length) (h2 : s.2.length ≤ 1000000) (h3 : s.1.length ≤ 1000000) : spec_NormalLoop_B1 r s = some (if turnB s = true then .inl (turned s) else .inr (s.1, s.2)) := by
  have e2 : wsub .i64 r (1 : Int) = ((s.2.length - 1 : Nat) : Int) := by rw [hr]; exact sub64 (a := s.2.length) (b := 1) h1 (by omega)
  have g2 : (0 : Int) ≤ ((s.2.length - 1 : Nat) : Int) ∧ ((s.2.length - 1 : Nat) : Int) < lenI s.2 := ⟨by omega, by simp only [lenI]; omega⟩
  have g2' : (0 : Int) ≤ ((s.2.length - 1 : Nat) : Int) ∧ ((s.2.length - 1 : Nat) : Int) ≤ lenI s.2 := ⟨by omega, by simp only [lenI]; omega⟩
  unfold spec_NormalLoop_B1 turnB
  by_cases h0 : lenI s.1 > 0
  · have h0' : 1 ≤ s.1.length := by simp only [lenI] at h0; omega
    have e1 : wsub .i64 (lenI s.1) (1 : Int) = ((s.1.length - 1 : Nat) : Int) := sub64 (a := s.1.length) (b := 1) h0' (by omega)
    have g1 : (0 : Int) ≤ ((s.1.length - 1 : Nat) : Int) ∧ ((s.1.length - 1 : Nat) : Int) < lenI s.1 := ⟨by omega, by simp only [lenI]; omega⟩
    have g1' : (0 : Int) ≤ ((s.1.length - 1 : Nat) : Int) ∧ ((s.1.length - 1 : Nat) : Int) ≤ lenI s.1 := ⟨by omega, by simp only [lenI]; omega⟩
    have ga : List.length ([(List.getD s.2 (s.2.length - 1) (0 : Int))] : List Int) + List.length (List.take (s.2.length - 1) (List.drop 0 s.2)) ≤ appMax := by
      simp [appMax]; omega
    simp only [h0, decide_true, cond_true, e1, e2, guard_pos g1, guard_pos g2, guard_pos g1', guard_pos g2', Int.toNat_natCast, Option.bind_some, Bool.true_and, guard_pos ga]
    rcases Bool.eq_false_or_eq_true (List.getD s.1 (s.1.length - 1) (0 : Int) == List.getD s.2 (s.2.length - 1) (0 : Int)) with hc | hc
    · simp only [hc, cond_true, if_true]; rfl
    · simp only [hc, cond_false]; rfl
  · simp only [h0, decide_false, cond_false, Option.bind_some, Bool.false_and]
    rfl

def TurnI (r : Nat) (s : List Int × List Int) : Prop := s.2.length = r ∧ s.1.length ≤ 1000000

theorem turned_I {r : Nat} {s : List Int × List Int} (hr : 1 ≤ r) (h : TurnI r s) : TurnI r (turned s) := by
  obtain ⟨h1, h2⟩ := h
  constructor
  · simp [turned]; omega
  · simp [turned]; omega

theorem turn_congr {r : Nat} (hr : 1 ≤ r) (hr2 : r ≤ 1000000) {s : List Int × List Int} (h : TurnI r s) : rounds (spec_NormalLoop_B1 (r : Int)) s = rounds impl_NormalLoop_B1 s := by
  refine rounds_congr (I := TurnI r) (fun s hs => ?_) (fun s s' hs hx => ?_) h
  · rw [spec_turn (by rw [hs.1]) (by rw [hs.1]; exact hr) (by rw [hs.1]; exact hr2) hs.2, impl_turn (by rw [hs.1]; exact hr) (by rw [hs.1]; exact hr2) hs.2]
  · rw [spec_turn (by rw [hs.1]) (by rw [hs.1]; exact hr) (by rw [hs.1]; exact hr2) hs.2] at hx
    injection hx with hx
    split at hx
    · injection hx with hx; subst hx; exact turned_I hr hs
    · cases hx

theorem firstPer_le {ys : List Int} : ∀ (k p q : Nat), firstPer ys k p = some q → p ≤ q ∧ q < p + k
  | 0, p, q, h => by simp [firstPer] at h
  | k + 1, p, q, h => by
    rw [firstPer] at h
    split at h
    · injection h with h; omega
    · have := firstPer_le k (p + 1) q h; omega

end Go.Proofs


/-
  The letters of a loop: its shortest one has them; the states that come again and again depend on them alone.
-/
namespace Go.Proofs
open Go.Ide Go.IntWalk

def ltr (xs ys : List Int) (i : Nat) : Int := if i < xs.length then xs.getD i 0 else ys.getD ((i - xs.length) % ys.length) 0

theorem per_get {ys : List Int} {r : Nat} (h1 : 1 ≤ r) (h2 : r ≤ ys.length) (hb : perB ys r = true) : ys.length % r = 0 ∧ ∀ i, i < ys.length → ys.getD i 0 = ys.getD (i % r) 0 := by
  unfold perB at hb
  simp only [Bool.and_eq_true, beq_iff_eq, decide_eq_true_eq] at hb
  obtain ⟨hm, hd⟩ := hb
  have step : ∀ i, r + i < ys.length → ys.getD (r + i) 0 = ys.getD i 0 := fun i hi => by
    have := congrArg (fun l => l.getD i 0) hd
    simp only [List.getD_eq_getElem?_getD, List.getElem?_drop] at this
    rw [List.getElem?_take_of_lt (by omega)] at this
    rw [List.getD_eq_getElem?_getD, List.getD_eq_getElem?_getD]
    exact this
  refine ⟨?_, fun i => ?_⟩
  · rw [Int.tmod_eq_emod_of_nonneg (by simp only [lenI]; omega)] at hm
    simp only [lenI] at hm
    rw [← Int.natCast_emod] at hm
    omega
  · induction i using Nat.strongRecOn with
    | _ i ih =>
      intro hi
      by_cases hlt : i < r
      · rw [Nat.mod_eq_of_lt hlt]
      · rw [Nat.mod_eq_sub_mod (by omega), ← ih (i - r) (by omega) (by omega), ← step (i - r) (by omega), show r + (i - r) = i by omega]

theorem firstPer_ok {ys : List Int} : ∀ (k p q : Nat), firstPer ys k p = some q → perB ys q = true
  | 0, p, q, h => by simp [firstPer] at h
  | k + 1, p, q, h => by
    rw [firstPer] at h
    split at h
    · rename_i hp; injection h with h; rw [← h]; exact hp
    · exact firstPer_ok k (p + 1) q h

theorem root_eq2 {ys : List Int} (hn : ys.length ≤ 1000000) (h1 : 1 ≤ ys.length) : ∃ r : Nat, r ≤ ys.length ∧ 1 ≤ r ∧ impl_root ys = some (ys.take r) ∧ lowPer ys ys.length (ys.length : Int) = (r : Int) ∧ (ys.length % r = 0 ∧ ∀ i, i < ys.length → ys.getD i 0 = ys.getD (i % r) 0) := by
  have hl := root_loop (ys := ys) (by omega) (ys.length - 1) 1 (by omega) (Nat.le_refl _)
  have hr : impl_root ys = (match firstPer ys (ys.length - 1) 1 with | some q => some (ys.take q) | none => some ys) := by
    unfold impl_root
    have hl' : rounds (impl_root_B1 ys) (1 : Int) = _ := hl
    rw [hl']
    cases firstPer ys (ys.length - 1) 1 <;> rfl
  have hlow := lowPer_first (ys := ys) ys.length (ys.length : Int)
  have hsn := firstPer_snoc (ys := ys) (ys.length - 1) 1
  rw [show ys.length - 1 + 1 = ys.length from by omega, show 1 + (ys.length - 1) = ys.length from by omega] at hsn
  rw [hsn] at hlow
  cases hf : firstPer ys (ys.length - 1) 1 with
  | some q =>
    have hb := firstPer_le _ _ _ hf
    have ho := firstPer_ok _ _ _ hf
    rw [hf] at hr hlow
    exact ⟨q, by omega, hb.1, hr, hlow, per_get hb.1 (by omega) ho⟩
  | none =>
    rw [hf] at hr hlow
    refine ⟨ys.length, Nat.le_refl _, h1, by rw [hr, List.take_length], ?_, Nat.mod_self _, fun i hi => by rw [Nat.mod_eq_of_lt hi]⟩
    rw [hlow]
    cases perB ys ys.length <;> rfl

theorem getD_take {xs : List Int} {n i : Nat} (h : i < n) : (xs.take n).getD i 0 = xs.getD i 0 := by
  rw [List.getD_eq_getElem?_getD, List.getElem?_take_of_lt h, ← List.getD_eq_getElem?_getD]

theorem ltr_root {xs ys : List Int} {r : Nat} (h1 : 1 ≤ r) (h2 : r ≤ ys.length) (h : ys.length % r = 0 ∧ ∀ i, i < ys.length → ys.getD i 0 = ys.getD (i % r) 0) (i : Nat) : ltr xs (ys.take r) i = ltr xs ys i := by
  unfold ltr
  split
  · rfl
  · have hl : (ys.take r).length = r := by rw [List.length_take]; omega
    rw [hl, getD_take (Nat.mod_lt _ (by omega)), h.2 _ (Nat.mod_lt _ (by omega)), Nat.mod_mod_of_dvd _ (Nat.dvd_of_mod_eq_zero h.1)]

theorem ltr_turned {s : List Int × List Int} (h1 : 1 ≤ s.2.length) (ht : turnB s = true) (i : Nat) : ltr (turned s).1 (turned s).2 i = ltr s.1 s.2 i := by
  obtain ⟨xs, ys⟩ := s
  unfold turnB at ht
  simp only [Bool.and_eq_true, decide_eq_true_eq, beq_iff_eq, lenI] at ht
  obtain ⟨h0, he⟩ := ht
  have h1 : 1 ≤ ys.length := h1
  have hl1 : (xs.take (xs.length - 1)).length = xs.length - 1 := by rw [List.length_take]; omega
  have hl2 : (ys.getD (ys.length - 1) 0 :: ys.take (ys.length - 1)).length = ys.length := by rw [List.length_cons, List.length_take]; omega
  unfold ltr turned
  simp only [hl1, hl2]
  by_cases ha : i < xs.length - 1
  · rw [if_pos ha, if_pos (by omega), getD_take ha]
  · rw [if_neg ha]
    by_cases hb : i < xs.length
    · rw [if_pos hb, show i - (xs.length - 1) = 0 by omega, Nat.zero_mod, List.getD_cons_zero, ← he, show i = xs.length - 1 by omega]
    · rw [if_neg hb, show i - (xs.length - 1) = (i - xs.length) + 1 by omega]
      generalize i - xs.length = j
      have hj := Nat.mod_lt j (show 0 < ys.length by omega)
      by_cases hc : j % ys.length + 1 = ys.length
      · have : (j + 1) % ys.length = 0 := by rw [← Nat.mod_add_mod, hc, Nat.mod_self]
        rw [this, List.getD_cons_zero, show j % ys.length = ys.length - 1 by omega]
      · have : (j + 1) % ys.length = j % ys.length + 1 := by rw [← Nat.mod_add_mod, Nat.mod_eq_of_lt (by omega)]
        rw [this, List.getD_cons_succ, getD_take (by omega)]

theorem normal_law {xs ys : List Int} {L : Int} (hv : okLoop xs ys L = true) (hb : xs.length ≤ 12 ∧ ys.length ≤ 12 ∧ 1 ≤ ys.length) :
    ∃ zs ws, spec_NormalLoop (xs, ys) L = some ((zs, ws), true) ∧ impl_NormalLoop (xs, ys) L = some ((zs, ws), true) ∧ zs.length ≤ xs.length ∧ ws.length ≤ ys.length ∧ 1 ≤ ws.length ∧ ∀ i, ltr zs ws i = ltr xs ys i := by
  obtain ⟨r, h1, h2, h3, h4, h5⟩ := root_eq2 (ys := ys) (by omega) hb.2.2
  have hlow := low_loop (xs := xs) (ys := ys) (by omega) ys.length (ys.length : Int) (Nat.le_refl _)
  rw [h4] at hlow
  have hlow : rounds (spec_NormalLoop_B3 (xs, ys)) (lenI ys, lenI ys) = some (r : Int) := hlow
  have g0 : 0 + List.length xs ≤ appMax := by simp [appMax]; omega
  have g1 : (0 : Int) ≤ (r : Int) ∧ (r : Int) ≤ lenI ys := ⟨by omega, by simp only [lenI]; omega⟩
  have c1 : cut ys (0 : Int) (r : Int) = ys.take r := by simp [cut]
  have g2 : 0 + List.length (ys.take r) ≤ appMax := by simp [appMax]; omega
  have hI : TurnI r (xs, ys.take r) := ⟨by simp; omega, by simp; omega⟩
  obtain ⟨x, k1, k2, k3, k4⟩ := rounds_inv (f := impl_NormalLoop_B1) (fun n s => n = s.1.length ∧ TurnI r s ∧ s.1.length ≤ xs.length ∧ ∀ i, ltr s.1 s.2 i = ltr xs ys i)
    (fun s => s.1.length ≤ xs.length ∧ s.2.length = r ∧ ∀ i, ltr s.1 s.2 i = ltr xs ys i) (by
      rintro n s ⟨rfl, hs, hl, he⟩
      rw [impl_turn (by rw [hs.1]; exact h2) (by rw [hs.1]; omega) hs.2]
      by_cases ht : turnB s = true
      · rw [if_pos ht]
        have h0 : lenI s.1 > 0 := by
          unfold turnB at ht
          simp only [Bool.and_eq_true, decide_eq_true_eq] at ht
          exact ht.1
        simp only [lenI] at h0
        have hlt : (turned s).1.length < s.1.length := by simp only [turned, List.length_take]; omega
        exact .inl ⟨_, _, hlt, rfl, rfl, turned_I h2 hs, by omega, fun i => by rw [ltr_turned (by rw [hs.1]; exact h2) ht, he]⟩
      · rw [if_neg ht]
        exact .inr ⟨_, rfl, hl, hs.1, he⟩) xs.length (xs, ys.take r) ⟨rfl, hI, Nat.le_refl _, ltr_root h2 h1 h5⟩
  refine ⟨x.1, x.2, ?_, ?_, k2, by omega, by omega, k4⟩
  · unfold spec_NormalLoop
    simp only [specLoop (xs := xs) (ys := ys) (L := L) (by omega) (by omega), hv, Option.bind_some, Bool.not_true, cond_false, hlow, guard_pos g0, guard_pos g1, c1, guard_pos g2, turn_congr h2 (by omega) hI, k1]
  · unfold impl_NormalLoop
    simp only [implLoop (xs := xs) (ys := ys) (L := L) (by omega) (by omega), hv, Option.bind_some, Bool.not_true, cond_false, guard_pos g0, guard_pos g2, slices_Clone, h3, k1]

theorem ltr_letters {c : Nat} {xs ys : List Int} (hx : Letters c xs) (hy : Letters c ys) (h1 : 1 ≤ ys.length) (i : Nat) : ∃ a : Nat, ltr xs ys i = (a : Int) ∧ a < c := by
  unfold ltr
  split
  · rename_i h; exact hx i h
  · exact hy _ (Nat.mod_lt _ (by omega))

theorem letters_of {c : Nat} {xs ys : List Int} (h1 : 1 ≤ ys.length) (h : ∀ i, ∃ a : Nat, ltr xs ys i = (a : Int) ∧ a < c) : Letters c xs ∧ Letters c ys := by
  refine ⟨fun i hi => ?_, fun i hi => ?_⟩
  · have := h i
    unfold ltr at this
    rw [if_pos hi] at this
    exact this
  · have := h (xs.length + i)
    unfold ltr at this
    rw [if_neg (by omega), show xs.length + i - xs.length = i by omega, Nat.mod_eq_of_lt hi] at this
    exact this

theorem okLoop_mk {c : Nat} {xs ys : List Int} (c1 : 1 ≤ c) (c2 : c ≤ 4) (hx : Letters c xs) (hy : Letters c ys) (lx : xs.length ≤ 12) (ly : ys.length ≤ 12) (l1 : 1 ≤ ys.length) : okLoop xs ys (c : Int) = true := by
  unfold okLoop
  rw [wsubI (by omega)]
  simp only [Bool.and_eq_true, decide_eq_true_eq, lenI]
  refine ⟨⟨by omega, by omega⟩, ⟨allIn_iff.2 fun i hi => ?_, by omega⟩, ⟨allIn_iff.2 fun i hi => ?_, by omega⟩, by omega⟩
  · obtain ⟨a, e, h⟩ := hx i hi; omega
  · obtain ⟨a, e, h⟩ := hy i hi; omega

def pathP (c : Nat) (nx : List Int) (l : Nat → Int) : Nat → Nat
  | 0 => 0
  | i + 1 => goP c nx (pathP c nx l i) (l i)

theorem two_same : ∀ (m : Nat) (f : Nat → Nat), (∀ i, i ≤ m → f i < m) → ∃ a b, a < b ∧ b ≤ m ∧ f a = f b
  | 0, f, h => absurd (h 0 (Nat.le_refl _)) (Nat.not_lt_zero _)
  | m + 1, f, h => by
    by_cases hx : ∃ a, a < m + 1 ∧ f a = f (m + 1)
    · obtain ⟨a, h1, h2⟩ := hx
      exact ⟨a, m + 1, h1, Nat.le_refl _, h2⟩
    · have hne : ∀ a, a < m + 1 → f a ≠ f (m + 1) := fun a ha e => hx ⟨a, ha, e⟩
      have hv := h (m + 1) (Nat.le_refl _)
      obtain ⟨a, b, h1, h2, h3⟩ := two_same m (fun i => if f i = m then f (m + 1) else f i) (fun i hi => by
        have h1 := h i (by omega)
        have h2 := hne i (by omega)
        split <;> omega)
      have ha := hne a (by omega)
      have hb := hne b (by omega)
      refine ⟨a, b, h1, by omega, ?_⟩
      split at h3 <;> split at h3 <;> omega

section
variable {m c : Nat} {nx : List Int} {es : List Bool} (hp : Plain m c nx es)
include hp

theorem path_lt {l : Nat → Int} (hl : ∀ i, ∃ a : Nat, l i = (a : Int) ∧ a < c) : ∀ i, pathP c nx l i < m
  | 0 => by have := hp.m1; exact this
  | i + 1 => by
    obtain ⟨a, e, ha⟩ := hl i
    exact goP_lt hp (path_lt hl i) e ha

def MarksP (m c : Nat) (nx : List Int) (l : Nat → Int) (T0 T : Nat) (b : List Bool) : Prop := b.length = m ∧ ∀ q, q < m → (b.getD q false = true ↔ ∃ t, T0 < t ∧ t ≤ T ∧ pathP c nx l t = q)

theorem MarksP.step {l : Nat → Int} {T0 T : Nat} {b : List Bool} (hl : ∀ i, ∃ a : Nat, l i = (a : Int) ∧ a < c) (h0 : T0 ≤ T) (h : MarksP m c nx l T0 T b) : MarksP m c nx l T0 (T + 1) (b.set (pathP c nx l (T + 1)) true) := by
  have hlt := path_lt hp hl (T + 1)
  refine ⟨by rw [List.length_set, h.1], fun q hq => ?_⟩
  by_cases e : pathP c nx l (T + 1) = q
  · have : (b.set (pathP c nx l (T + 1)) true).getD q false = true := by
      rw [e, List.getD_eq_getElem?_getD, List.getElem?_set_self (by rw [h.1]; exact hq)]; rfl
    exact ⟨fun _ => ⟨T + 1, by omega, Nat.le_refl _, e⟩, fun _ => this⟩
  · rw [List.getD_eq_getElem?_getD, List.getElem?_set_ne e, ← List.getD_eq_getElem?_getD, h.2 q hq]
    constructor
    · rintro ⟨t, h1, h2, h3⟩; exact ⟨t, h1, by omega, h3⟩
    · rintro ⟨t, h1, h2, h3⟩
      refine ⟨t, h1, ?_, h3⟩
      by_cases ht : t = T + 1
      · subst ht; exact absurd h3 e
      · omega

omit hp in
theorem forS_I {σ : Type} {g : Nat → σ → σ} {I : Nat → σ → Prop} {n : Nat} (h : ∀ i s, i < n → I i s → I (i + 1) (g i s)) : ∀ (k i : Nat) (s : σ), i + k ≤ n → I i s → I (i + k) (forS g k i s)
  | 0, _, _, _, hs => hs
  | k + 1, i, s, hi, hs => by
    rw [show i + (k + 1) = (i + 1) + k by omega]
    exact forS_I h k (i + 1) (g i s) (by omega) (h i s (by omega) hs)

variable {hd rd : List Int} (hh : Letters c hd) (hr : Letters c rd) (l1 : 1 ≤ rd.length)
include hh hr l1

omit hp hh hr l1 in
theorem ltr_in {k j : Nat} (hj : j < rd.length) : ltr hd rd (hd.length + k * rd.length + j) = rd.getD j 0 := by
  unfold ltr
  rw [if_neg (by omega), show hd.length + k * rd.length + j - hd.length = j + k * rd.length by omega, Nat.add_mul_mod_self_right, Nat.mod_eq_of_lt hj]

omit hp hh hr l1 in
theorem walk_head : ∀ k, k ≤ hd.length → walkP c nx 0 (hd.take k) = pathP c nx (ltr hd rd) k
  | 0, _ => rfl
  | k + 1, hk => by
    rw [walk_succ (by omega), walk_head k (by omega)]
    show _ = goP c nx _ (ltr hd rd k)
    unfold ltr
    rw [if_pos (by omega)]

omit hp hh hr l1 in
theorem walk_round (k : Nat) : ∀ j, j ≤ rd.length → walkP c nx (pathP c nx (ltr hd rd) (hd.length + k * rd.length)) (rd.take j) = pathP c nx (ltr hd rd) (hd.length + k * rd.length + j)
  | 0, _ => rfl
  | j + 1, hj => by
    rw [walk_succ (by omega), walk_round k j (by omega), ← ltr_in (hd := hd) (k := k) (by omega)]
    rfl

omit hp hh hr l1 in
theorem rep_round : ∀ (n k : Nat), repP c nx rd n (pathP c nx (ltr hd rd) (hd.length + k * rd.length)) = pathP c nx (ltr hd rd) (hd.length + (k + n) * rd.length)
  | 0, k => rfl
  | n + 1, k => by
    have := walk_round (c := c) (nx := nx) (hd := hd) (rd := rd) k rd.length (Nat.le_refl _)
    rw [List.take_length, show hd.length + k * rd.length + rd.length = hd.length + (k + 1) * rd.length by rw [Nat.succ_mul]; omega] at this
    rw [repP, this, rep_round n (k + 1), show k + 1 + n = k + (n + 1) by omega]

theorem mark_round {T0 k : Nat} {b : List Bool} (h0 : T0 ≤ hd.length + k * rd.length) (hb : MarksP m c nx (ltr hd rd) T0 (hd.length + k * rd.length) b) :
    (markP c nx rd rd.length 0 (pathP c nx (ltr hd rd) (hd.length + k * rd.length), b)).1 = pathP c nx (ltr hd rd) (hd.length + (k + 1) * rd.length) ∧
    MarksP m c nx (ltr hd rd) T0 (hd.length + (k + 1) * rd.length) (markP c nx rd rd.length 0 (pathP c nx (ltr hd rd) (hd.length + k * rd.length), b)).2 := by
  have := forS_I (g := fun i (s : Nat × List Bool) => (goP c nx s.1 (rd.getD i 0), s.2.set (goP c nx s.1 (rd.getD i 0)) true)) (I := fun i s => s.1 = pathP c nx (ltr hd rd) (hd.length + k * rd.length + i) ∧ MarksP m c nx (ltr hd rd) T0 (hd.length + k * rd.length + i) s.2) (n := rd.length)
    (fun i s hi hs => by
      obtain ⟨e, hm⟩ := hs
      have eg : goP c nx s.1 (rd.getD i 0) = pathP c nx (ltr hd rd) (hd.length + k * rd.length + i + 1) := by
        rw [e, ← ltr_in (hd := hd) (k := k) hi]; rfl
      refine ⟨eg, ?_⟩
      simp only
      rw [eg]
      exact MarksP.step hp (ltr_letters hh hr l1) (Nat.le_trans h0 (Nat.le_add_right _ _)) hm) rd.length 0 (pathP c nx (ltr hd rd) (hd.length + k * rd.length), b) (by omega) ⟨rfl, hb⟩
  rw [Nat.zero_add, show hd.length + k * rd.length + rd.length = hd.length + (k + 1) * rd.length by rw [Nat.succ_mul]; omega] at this
  exact this

theorem states_marks : MarksP m c nx (ltr hd rd) (hd.length + m * rd.length) (hd.length + (m + m) * rd.length) (statesP m c nx hd rd) := by
  have e0 := walk_head (c := c) (nx := nx) (hd := hd) (rd := rd) hd.length (Nat.le_refl _)
  rw [List.take_length] at e0
  have e1 := rep_round (c := c) (nx := nx) (hd := hd) (rd := rd) m 0
  rw [Nat.zero_mul, Nat.add_zero, Nat.zero_add] at e1
  unfold statesP
  rw [e0, e1]
  have := forS_I (g := fun _ (s : Nat × List Bool) => markP c nx rd rd.length 0 s) (I := fun i s => s.1 = pathP c nx (ltr hd rd) (hd.length + (m + i) * rd.length) ∧ MarksP m c nx (ltr hd rd) (hd.length + m * rd.length) (hd.length + (m + i) * rd.length) s.2) (n := m)
    (fun i s hi hs => by
      obtain ⟨p, b⟩ := s
      obtain ⟨e, hm⟩ := hs
      simp only at e hm
      subst e
      exact mark_round hp hh hr l1 (Nat.add_le_add_left (Nat.mul_le_mul_right _ (by omega)) _) hm) m 0 (pathP c nx (ltr hd rd) (hd.length + m * rd.length), List.replicate m false) (by omega) ⟨rfl, by simp, fun q hq => by
        constructor
        · intro h
          rw [List.getD_eq_getElem?_getD, List.getElem?_replicate, if_pos hq] at h
          cases h
        · rintro ⟨t, h1, h2, _⟩; simp only [Nat.add_zero] at h2; omega⟩
  rw [Nat.zero_add] at this
  exact this.2

omit l1 in
theorem path_per (l1 : 1 ≤ rd.length) : ∃ d, 1 ≤ d ∧ d ≤ m ∧ ∀ t, hd.length + m * rd.length ≤ t → pathP c nx (ltr hd rd) (t + d * rd.length) = pathP c nx (ltr hd rd) t := by
  obtain ⟨a, b, h1, h2, h3⟩ := two_same m (fun k => pathP c nx (ltr hd rd) (hd.length + k * rd.length)) (fun i _ => path_lt hp (ltr_letters hh hr l1) _)
  refine ⟨b - a, by omega, by omega, fun t ht => ?_⟩
  have hab : hd.length + b * rd.length = hd.length + a * rd.length + (b - a) * rd.length := by rw [Nat.add_assoc, ← Nat.add_mul, show a + (b - a) = b by omega]
  have hper : ∀ i, ltr hd rd (hd.length + a * rd.length + i + (b - a) * rd.length) = ltr hd rd (hd.length + a * rd.length + i) := fun i => by
    unfold ltr
    rw [if_neg (by omega), if_neg (by omega), show hd.length + a * rd.length + i + (b - a) * rd.length - hd.length = (hd.length + a * rd.length + i - hd.length) + (b - a) * rd.length by omega, Nat.add_mul_mod_self_right]
  have key : ∀ i, pathP c nx (ltr hd rd) (hd.length + a * rd.length + i + (b - a) * rd.length) = pathP c nx (ltr hd rd) (hd.length + a * rd.length + i) := fun i => by
    induction i with
    | zero => simp only [Nat.add_zero]; rw [← hab]; exact h3.symm
    | succ i ih =>
      have e : hd.length + a * rd.length + (i + 1) + (b - a) * rd.length = (hd.length + a * rd.length + i + (b - a) * rd.length) + 1 := by omega
      rw [e]
      show goP c nx (pathP c nx (ltr hd rd) _) (ltr hd rd _) = goP c nx (pathP c nx (ltr hd rd) _) (ltr hd rd _)
      rw [ih, hper]
      rfl
  have ham : a * rd.length ≤ m * rd.length := Nat.mul_le_mul_right _ (by omega)
  have := key (t - (hd.length + a * rd.length))
  rw [show hd.length + a * rd.length + (t - (hd.length + a * rd.length)) = t by omega] at this
  exact this

theorem states_iff : (statesP m c nx hd rd).length = m ∧ ∀ q, q < m → ((statesP m c nx hd rd).getD q false = true ↔ ∀ N, ∃ t, N ≤ t ∧ pathP c nx (ltr hd rd) t = q) := by
  have hm := states_marks hp hh hr l1
  obtain ⟨d, d1, d2, hd'⟩ := path_per hp hh hr l1
  have hR : d * rd.length ≤ m * rd.length := Nat.mul_le_mul_right _ d2
  have hR1 : 1 ≤ d * rd.length := Nat.mul_le_mul d1 l1
  have hmm : (m + m) * rd.length = m * rd.length + m * rd.length := Nat.add_mul _ _ _
  refine ⟨hm.1, fun q hq => ?_⟩
  rw [hm.2 q hq]
  generalize d * rd.length = P at *
  generalize m * rd.length = M at *
  constructor
  · rintro ⟨t, h1, h2, h3⟩ N
    have : ∀ n, pathP c nx (ltr hd rd) (t + n * P) = q := fun n => by
      induction n with
      | zero => rw [Nat.zero_mul]; exact h3
      | succ n ih => rw [Nat.succ_mul, ← Nat.add_assoc, hd' _ (by omega)]; exact ih
    refine ⟨t + N * P, ?_, this N⟩
    have : N * 1 ≤ N * P := Nat.mul_le_mul_left _ hR1
    omega
  · intro h
    have : ∀ (n t : Nat), t ≤ n → hd.length + M < t → pathP c nx (ltr hd rd) t = q → ∃ t, hd.length + M < t ∧ t ≤ hd.length + (m + m) * rd.length ∧ pathP c nx (ltr hd rd) t = q := fun n => by
      induction n with
      | zero => intro t h1 h2; omega
      | succ n ih =>
        intro t h1 h2 h3
        by_cases hle : t ≤ hd.length + (m + m) * rd.length
        · exact ⟨t, h2, hle, h3⟩
        · refine ih (t - P) (by omega) (by omega) ?_
          rw [← hd' (t - P) (by omega), show t - P + P = t by omega]
          exact h3
    obtain ⟨t, h1, h2⟩ := h (hd.length + M + 1)
    exact this t t (Nat.le_refl _) (by omega) h2
end

theorem states_same {m c : Nat} {nx : List Int} {es : List Bool} (hp : Plain m c nx es) {xs ys zs ws : List Int} (hx : Letters c xs) (hy : Letters c ys) (h1 : 1 ≤ ys.length) (hz : Letters c zs) (hw : Letters c ws) (h2 : 1 ≤ ws.length) (h : ∀ i, ltr zs ws i = ltr xs ys i) : statesP m c nx zs ws = statesP m c nx xs ys := by
  obtain ⟨a1, a2⟩ := states_iff hp hx hy h1
  obtain ⟨b1, b2⟩ := states_iff hp hz hw h2
  have he : ltr zs ws = ltr xs ys := funext h
  rw [he] at b2
  refine List.ext_getElem (by rw [a1, b1]) fun i p q => ?_
  have hi : i < m := by omega
  have := (b2 i hi).trans (a2 i hi).symm
  rw [List.getD_eq_getElem?_getD, List.getD_eq_getElem?_getD, List.getElem?_eq_getElem p, List.getElem?_eq_getElem q] at this
  simp only [Option.getD_some] at this
  rw [Bool.eq_iff_iff]
  exact this

theorem states_some {m c : Nat} {nx : List Int} {es : List Bool} (hp : Plain m c nx es) {xs ys : List Int} (hx : Letters c xs) (hy : Letters c ys) (h1 : 1 ≤ ys.length) : ∃ q, q < m ∧ (statesP m c nx xs ys).getD q false = true := by
  have hm := states_marks hp hx hy h1
  have hlt := path_lt hp (ltr_letters hx hy h1) (xs.length + m * ys.length + 1)
  have hmm : (m + m) * ys.length = m * ys.length + m * ys.length := Nat.add_mul _ _ _
  have hR1 : 1 ≤ m * ys.length := Nat.mul_le_mul hp.m1 h1
  exact ⟨_, hlt, (hm.2 _ hlt).2 ⟨_, by omega, by omega, rfl⟩⟩

end Go.Proofs


/-
  What the law says of loops.
-/
namespace Go.Proofs
open Go.Ide Go.IntWalk

theorem drawWord {c k : Nat} {code : List Int} (c1 : 1 ≤ c) (hk : k ≤ 100) (hb : BytesI code) : ∃ w, spec_B10Word code (c : Int) (k : Int) = some w ∧ w.length = k ∧ Letters c w := by
  obtain ⟨ef, of⟩ := SrcOK.from hb
  obtain ⟨r, er, r1, r2⟩ := rounds_inv (f := spec_l07DrawWord_B1 (c : Int)) (fun a st => ∃ (s : SrcD) (out : List Int), st = ((a : Int), s, out) ∧ a + out.length = k ∧ SrcOK (a * 2) s ∧ Letters c out)
    (fun r => r.2.length = k ∧ Letters c r.2) (by
      rintro a st ⟨s, out, rfl, ha, hs, ho⟩
      unfold spec_l07DrawWord_B1
      by_cases h0 : a = 0
      · subst h0
        have hd : decide (((0 : Nat) : Int) > (0 : Int)) = false := by simp
        simp only [hd, cond_false]
        exact .inr ⟨_, rfl, by show out.length = _; omega, ho⟩
      · have hd : decide ((a : Int) > (0 : Int)) = true := by simp; omega
        obtain ⟨x, s', e, x1, x2, o⟩ := pick_ok (n := (a - 1) * 2) (hs.mono (by omega)) (c : Int)
        have e1 : wsub .i64 (a : Int) 1 = ((a - 1 : Nat) : Int) := by rw [wsubI (by omega)]; omega
        simp only [hd, cond_true, e, Option.bind_some, e1]
        rw [guard_pos (by simp only [List.length_cons, List.length_nil, appMax]; omega)]
        refine .inl ⟨a - 1, _, by omega, rfl, s', out ++ [x], rfl, by simp; omega, o, fun i hi => ?_⟩
        rw [getD_app]
        split
        · rename_i hi2; exact ho i hi2
        · have : i - out.length = 0 := by simp at hi; omega
          rw [this]
          exact ⟨x.toNat, by show x = _; omega, by omega⟩) k ((k : Int), (code, (0 : Int), (0 : Int)), ([] : List Int)) ⟨_, [], rfl, by simp, of.mono (by omega), fun i hi => by simp at hi⟩
  refine ⟨r.2, ?_, r1, r2⟩
  unfold spec_B10Word spec_l07DrawWord
  simp only [ef, er, Option.bind_some]

theorem Letters.app {c : Nat} {xs ys : List Int} (hx : Letters c xs) (hy : Letters c ys) : Letters c (xs ++ ys) := fun i hi => by
  rw [getD_app]
  rw [List.length_append] at hi
  split
  · rename_i h; exact hx i h
  · exact hy _ (by omega)

theorem intsI (xs : List Int) (h : xs.length ≤ 4294967296) : laws_b10Ints xs xs = some true := by
  have := equalS64 (xs := xs) (ys := xs) h
  rw [show laws_b10Ints xs xs = slices_Equal___int64_int64 xs xs from rfl, this, decide_eq_true rfl]

theorem letterAt {c i : Nat} {xs ys : List Int} (hv : okLoop xs ys (c : Int) = true) (lx : xs.length ≤ 12) (ly : ys.length ≤ 12) (l1 : 1 ≤ ys.length) (hi : i ≤ 1000) : impl_LetterAt (xs, ys) (c : Int) (i : Int) = some (ltr xs ys i, true) := by
  have hw : (decide ((i : Int) ≥ 0) && decide ((i : Int) ≤ 1000000)) = true := by simp; omega
  unfold impl_LetterAt ltr
  simp only [implLoop (xs := xs) (ys := ys) (L := (c : Int)) (by omega) (by omega), hv, within64, hw, Option.bind_some, Bool.not_true, cond_false]
  by_cases h : i < xs.length
  · simp only [ltN h, cond_true, if_pos h, guard_pos (idxN h), Int.toNat_natCast]
  · have hd : decide ((i : Int) < lenI xs) = false := by simp [lenI]; omega
    have e1 : wsub .i64 (i : Int) (lenI xs) = ((i - xs.length : Nat) : Int) := by simp only [lenI]; rw [wsubI (by omega)]; omega
    have e2 : Int.tmod ((i - xs.length : Nat) : Int) (lenI ys) = (((i - xs.length) % ys.length : Nat) : Int) := by
      rw [Int.tmod_eq_emod_of_nonneg (by omega)]; rfl
    have := Nat.mod_lt (i - xs.length) (show 0 < ys.length by omega)
    simp only [hd, cond_false, if_neg h, e1, e2, guard_pos (idxN this), Int.toNat_natCast]
    rw [guard_pos (by simp only [lenI]; omega)]

section
variable {m c : Nat} {nx : List Int} {es : List Bool} {xs ys : List Int}

theorem plain_ok (h : okPlain (m : Int) (c : Int) nx es = true) : Plain m c nx es := plain_of' h

theorem statesOf (hk : okPlain (m : Int) (c : Int) nx es = true) (hv : okLoop xs ys (c : Int) = true) : impl_StatesOfLoop ((m : Int), (c : Int), nx, es) (xs, ys) = some (keepS (statesP m c nx xs ys), true) := by
  have hp := plain_ok hk
  obtain ⟨l1, l2, l3, l4, l5⟩ := okLoop_spec hv
  have i1 := impl_states hp l4 l5 (by omega) (by omega)
  obtain ⟨s1, s2⟩ := spec_states hp l4 l5 (by omega) (by omega)
  have m2 := hp.m2
  have c2 := hp.c2
  have hl := hp.len
  have hmc : m * c ≤ 64 * 4 := Nat.mul_le_mul m2 c2
  unfold impl_StatesOfLoop
  simp only [implPlain (s := (m : Int)) (l := (c : Int)) (nx := nx) (es := es) (by omega), hk, implLoop (xs := xs) (ys := ys) (L := (c : Int)) (by omega) (by omega), hv, Option.bind_some, Bool.not_true, cond_false, i1, indices_ok (b := statesP m c nx xs ys) (by omega)]
  rfl

theorem readsOf (hk : okPlain (m : Int) (c : Int) nx es = true) (hv : okLoop xs ys (c : Int) = true) : impl_ReadsLoop ((m : Int), (c : Int), nx, es) (xs, ys) = some (readsB (statesP m c nx xs ys) es, true) := by
  have hp := plain_ok hk
  obtain ⟨l1, l2, l3, l4, l5⟩ := okLoop_spec hv
  have i1 := impl_reads hp l4 l5 (by omega) (by omega)
  have m2 := hp.m2
  have c2 := hp.c2
  have hl := hp.len
  have hmc : m * c ≤ 64 * 4 := Nat.mul_le_mul m2 c2
  unfold impl_ReadsLoop
  simp only [implPlain (s := (m : Int)) (l := (c : Int)) (nx := nx) (es := es) (by omega), hk, implLoop (xs := xs) (ys := ys) (L := (c : Int)) (by omega) (by omega), hv, Option.bind_some, Bool.not_true, cond_false, i1]
end

theorem reads_list {b es : List Bool} : allN (fun i => !es.getD ((keepS b).getD i 0).toNat false) (keepS b).length 0 = allN (fun i => !(b.getD i false && es.getD i false)) b.length 0 := by
  rw [Bool.eq_iff_iff, allN_iff, allN_iff]
  constructor
  · intro h j _ hj
    cases hb : b.getD j false with
    | false => rfl
    | true =>
      have hmem : ((j : Nat) : Int) ∈ keepS b := (idxF_mem b 0 _).2 ⟨j, by omega, by omega, hb⟩
      obtain ⟨i, hi, e⟩ := List.getElem_of_mem hmem
      have := h i (by omega) (by omega)
      have e2 : (keepS b).getD i 0 = ((j : Nat) : Int) := by
        rw [List.getD_eq_getElem?_getD, List.getElem?_eq_getElem hi]; exact e
      rw [e2, Int.toNat_natCast] at this
      simpa using this
  · intro h i _ hi
    have hmem := getD_mem (xs := keepS b) (i := i) (by omega)
    obtain ⟨j, h1, h2, h3⟩ := (idxF_mem b 0 _).1 hmem
    have := h j (by omega) (by omega)
    rw [h2, Nat.zero_add, Int.toNat_natCast]
    rw [h3] at this
    simpa using this

theorem endsSeen {m : Nat} {c : Int} {nx : List Int} {es b : List Bool} (hm : m ≤ 64) (hb : b.length = m) (he : es.length = m) (ok : Bool) :
    rounds (laws_FnLoops_B1 ((m : Int), c, nx, es) (keepS b, ok)) (false, (0 : Int)) = some (.inl (readsB b es)) := by
  have hlen := idxF_len b 0
  have hkl : (keepS b).length ≤ 64 := by unfold keepS; omega
  have := rounds_forS (f := laws_FnLoops_B1 ((m : Int), c, nx, es) (keepS b, ok)) (fun i (s : Bool) => (s, ((i : Nat) : Int))) (fun i s => s || es.getD ((keepS b).getD i 0).toNat false) (fun s => (.inl s : Bool ⊕ Unit)) (n := (keepS b).length)
    (fun i s => s = !allN (fun i => !es.getD ((keepS b).getD i 0).toNat false) i 0)
    (fun i s hi hs => by
      have hmem := getD_mem hi
      obtain ⟨j, h1, h2, h3⟩ := (idxF_mem b 0 _).1 hmem
      refine ⟨?_, ?_⟩
      · unfold laws_FnLoops_B1
        have d1 : decide ((keepS b).getD i 0 < (0 : Int)) = false := decide_eq_false (by omega)
        have d2 : decide ((keepS b).getD i 0 ≥ (m : Int)) = false := decide_eq_false (by omega)
        have g1 : (0 : Int) ≤ (keepS b).getD i 0 ∧ (keepS b).getD i 0 < lenI es := by simp only [lenI]; omega
        simp only [ltN hi, cond_true, guard_pos (idxN hi), Int.toNat_natCast, d1, d2, cond_false, Option.bind_some, guard_pos g1, nextN hi (show (keepS b).length ≤ 4294967296 by omega)]
        cases s <;> rfl
      · rw [hs, allN_snoc, Nat.zero_add]
        cases allN (fun i => !es.getD ((keepS b).getD i 0).toNat false) i 0 <;> cases es.getD ((keepS b).getD i 0).toNat false <;> rfl)
    (fun s _ => by
      unfold laws_FnLoops_B1
      simp only [geN (Nat.le_refl _), cond_false]) (keepS b).length 0 false (by omega) rfl
  simp only [Int.natCast_zero] at this
  rw [this.1, this.2, reads_list]
  rfl

theorem FnLoops_law (x0 x1 : List Int) (w0 : WfD (.sl (.int .u8)) x0) (w1 : WfD (.sl (.int .u8)) x1) : laws_FnLoops x0 x1 = some true := by
  unfold laws_FnLoops laws_b10Long
  by_cases c0 : lenI x0 > (1048576 : Int)
  · simp only [c0, decide_true, cond_true, Option.bind_some]
  · by_cases c1 : lenI x1 > (1048576 : Int)
    · simp only [c0, c1, decide_true, decide_false, cond_true, cond_false, Option.bind_some]
    · simp only [c0, c1, decide_false, cond_false, Option.bind_some]
      have b0 := bytesI_wf w0 (by simp only [lenI] at c0; omega)
      have b1 := bytesI_wf w1 (by simp only [lenI] at c1; omega)
      obtain ⟨y4, e4, p1, p2⟩ := b10At_ok b1 (i := 0) (n := 3) (by omega)
      obtain ⟨c, hc, c1', c2'⟩ : ∃ c : Nat, wadd .i64 (1 : Int) y4 = (c : Int) ∧ 1 ≤ c ∧ c ≤ 3 := ⟨(1 + y4).toNat, by rw [waddI (by omega)]; omega, by omega, by omega⟩
      obtain ⟨y6, e6, q1, q2⟩ := b10At_ok b1 (i := 1) (n := 5) (by omega)
      obtain ⟨k6, rfl⟩ : ∃ k : Nat, y6 = (k : Int) := ⟨y6.toNat, by omega⟩
      obtain ⟨xs, eX, lX, hX⟩ := drawWord (c := c) (k := k6) c1' (by omega) b0
      obtain ⟨y10, e10, r1, r2⟩ := b10At_ok b1 (i := 2) (n := 6) (by omega)
      obtain ⟨n, hn, n1, n2⟩ : ∃ n : Nat, wadd .i64 (1 : Int) y10 = (n : Int) ∧ 1 ≤ n ∧ n ≤ 6 := ⟨(1 + y10).toNat, by rw [waddI (by omega)]; omega, by omega, by omega⟩
      obtain ⟨w, eW, lW, hW⟩ := drawWord (c := c) (k := n) c1' (by omega) b1
      obtain ⟨y13, e13, -, -⟩ := b10At_ok b1 (i := 3) (n := 2) (by omega)
      have hd6 : decide (lenI w ≤ (6 : Int)) = true := by simp [lenI]; omega
      simp only [e4, hc, e6, eX, e10, hn, eW, e13, Option.bind_some, hd6]
      rw [guard_pos (show 0 + List.length w ≤ appMax by simp only [appMax]; omega), guard_pos (show List.length w + List.length w ≤ appMax by simp only [appMax]; omega)]
      obtain ⟨ys, hys, hY, l1, l12⟩ : ∃ ys, (bif (bif (y13 == (0 : Int)) then some true else some false : Option Bool).getD false then w ++ w else w) = ys ∧ Letters c ys ∧ 1 ≤ ys.length ∧ ys.length ≤ 12 := by
        refine ⟨_, rfl, ?_, ?_, ?_⟩ <;> cases (y13 == (0 : Int)) <;> simp only [cond_true, cond_false, Option.getD_some]
        · exact hW
        · exact hW.app hW
        · omega
        · rw [List.length_append]; omega
        · omega
        · rw [List.length_append]; omega
      have hv14 : ((bif (y13 == (0 : Int)) then some true else some false : Option Bool).bind fun v => bif v then some (w ++ w) else some w) = some ys := by
        rw [← hys]
        cases (y13 == (0 : Int)) <;> rfl
      rw [hv14]
      simp only [Option.bind_some]
      have hv := okLoop_mk c1' (by omega) hX hY (by omega) l12 l1
      obtain ⟨zs, ws, n1', n2', n3, n4, n5, n6⟩ := normal_law hv ⟨by omega, l12, l1⟩
      obtain ⟨hZ, hWs⟩ := letters_of n5 (fun i => by rw [n6]; exact ltr_letters hX hY l1 i)
      have hv2 := okLoop_mk c1' (by omega) hZ hWs (by omega) (by omega) n5
      have hsv : spec_ValidLoop (zs, ws) (c : Int) = some true := by
        unfold spec_ValidLoop
        simp only [specLoop (xs := zs) (ys := ws) (L := (c : Int)) (by omega) (by omega), hv2, Option.bind_some]
      have hiv : impl_ValidLoop (xs, ys) (c : Int) = some true := by rw [implLoop (by omega) (by omega), hv]
      have d1 : decide (lenI ws > lenI ys) = false := by simp [lenI]; omega
      have d2 : decide (lenI zs > lenI xs) = false := by simp [lenI]; omega
      simp only [n1', n2', hiv, hsv, intsI zs (by omega), intsI ws (by omega), d1, d2, Option.bind_some, Bool.not_true, cond_false]
      -- the letters
      obtain ⟨r26, er26, h26⟩ := rounds_inv (f := laws_FnLoops_B2 y4 xs ys ((zs, ws), true)) (fun a st => ∃ i : Nat, a + i = 30 ∧ st = (i : Int)) (fun r => r = .inl ()) (by
        rintro a st ⟨i, ha, rfl⟩
        unfold laws_FnLoops_B2
        rw [hc]
        by_cases hi : i < 30
        · have hdi : decide ((i : Int) < (30 : Int)) = true := by simp; omega
          simp only [hdi, cond_true, letterAt hv (by omega) l12 l1 (show i ≤ 1000 by omega), letterAt hv2 (by omega) (by omega) n5 (show i ≤ 1000 by omega), n6, Option.bind_some, Bool.not_true, cond_false, bne_self_eq_false, nextN hi (show 30 ≤ 4294967296 by omega)]
          exact .inl ⟨a - 1, _, by omega, rfl, i + 1, by omega, rfl⟩
        · have hdi : decide ((i : Int) < (30 : Int)) = false := by simp; omega
          simp only [hdi, cond_false]
          exact .inr ⟨_, rfl, rfl⟩) 30 (0 : Int) ⟨0, by omega, rfl⟩
      subst h26
      simp only [er26, Option.bind_some]
      -- the machine
      obtain ⟨ef, of⟩ := SrcOK.from b0
      obtain ⟨y3, s3, e3, t1, t2, o3⟩ := pick_ok (n := 1000) (of.mono (by omega)) (5 : Int)
      obtain ⟨m, hm, m1, m2⟩ : ∃ m : Nat, wadd .i64 (1 : Int) y3 = (m : Int) ∧ 1 ≤ m ∧ m ≤ 5 := ⟨(1 + y3).toNat, by rw [waddI (by omega)]; omega, by omega, by omega⟩
      obtain ⟨nx, es, s5, e5, hk, -⟩ := drawPlain (g := 0) m1 m2 c1' c2' (o3.mono (by omega))
      have hpl : spec_B10Plain x0 (c : Int) = some ((m : Int), (c : Int), nx, es) := by
        unfold spec_B10Plain
        simp only [ef, e3, hm, e5, Option.bind_some]
      have hp := plain_ok hk
      have hss := states_same hp hX hY l1 hZ hWs n5 n6
      obtain ⟨q, hq, hq2⟩ := states_some hp hX hY l1
      obtain ⟨si1, -⟩ := states_iff hp hX hY l1
      have hne : 1 ≤ (keepS (statesP m c nx xs ys)).length := by
        have : ((0 + q : Nat) : Int) ∈ keepS (statesP m c nx xs ys) := (idxF_mem _ 0 _).2 ⟨q, by omega, rfl, hq2⟩
        exact List.length_pos_of_mem this
      have hkl : (keepS (statesP m c nx xs ys)).length ≤ 4294967296 := by
        have := idxF_len (statesP m c nx xs ys) 0
        unfold keepS; omega
      have d3 : decide (lenI (keepS (statesP m c nx xs ys)) < (1 : Int)) = false := by simp [lenI]; omega
      simp only [hpl, statesOf hk hv, statesOf hk hv2, readsOf hk hv, readsOf hk hv2, hss, intsI _ hkl, d3, Option.bind_some, Bool.not_true, cond_false, bne_self_eq_false, endsSeen (c := (c : Int)) (nx := nx) (show m ≤ 64 by omega) si1 hp.ends]
      obtain ⟨r, f1, f2, f3⟩ := firstH hp (M := 2) (by omega)
      have hmc : m * c ≤ 5 * 3 := Nat.mul_le_mul m2 c2'
      have hl := hp.len
      have hw2 : (decide ((2 : Int) ≥ 1) && decide ((2 : Int) ≤ 3)) = true := by decide
      have f1 : rounds (spec_FirstLoop_B4 ((m : Int), (c : Int), nx, es) (2 : Int)) 0 = some r := f1
      have f2 : rounds (impl_FirstLoop_B3 ((m : Int), (c : Int), nx, es) (2 : Int)) 0 = some r := f2
      unfold impl_FirstLoop spec_FirstLoop
      simp only [specPlain (s := (m : Int)) (l := (c : Int)) (nx := nx) (es := es) (by omega), implPlain (s := (m : Int)) (l := (c : Int)) (nx := nx) (es := es) (by omega), hk, in64, within64, hw2, Option.bind_some, Bool.not_true, cond_false, f1, f2]
      cases r with
      | inl u => simp only [Option.bind_some, bne_self_eq_false, cond_false, Bool.not_false, cond_true]
      | inr x =>
        have hf := f3 x rfl
        have hvx := okLoop_mk c1' (by omega) hf.a1 hf.a2 hf.l1 hf.l2 hf.l0
        have g1 := hf.l1
        have g2 := hf.l2
        simp only [Option.bind_some, bne_self_eq_false, cond_false, Bool.not_true, cond_true, readsOf hk hvx, hf.rd, intsI x.1 (by omega), intsI x.2 (by omega)]

end Go.Proofs
