import Derived.Test.YtapgmbilojbacaaHiddenGenB
set_option linter.unusedVariables false
set_option linter.unusedSimpArgs false
set_option linter.unusedSectionVars false

namespace Go.Proofs
open Go.Ide Go.IntWalk


end Go.Proofs


namespace Go.Proofs
open Go.Ide Go.IntWalk

theorem within64 (a b c : Int) : impl_within a b c = some (decide (a ≥ b) && decide (a ≤ c)) := by
  unfold impl_within
  cases h : decide (a ≥ b) <;> simp

def allIn (xs : List Int) (b c : Int) : Bool := xs.all fun x => decide (x ≥ b) && decide (x ≤ c)

theorem allIn_iff {xs : List Int} {b c : Int} : allIn xs b c = true ↔ ∀ i, i < xs.length → b ≤ xs.getD i 0 ∧ xs.getD i 0 ≤ c := by
  unfold allIn
  rw [List.all_eq_true]
  constructor
  · intro h i hi
    have := h xs[i] (List.getElem_mem hi)
    simp only [Bool.and_eq_true, decide_eq_true_eq] at this
    rw [List.getD_eq_getElem?_getD, List.getElem?_eq_getElem hi]
    exact ⟨this.1, this.2⟩
  · intro h x hx
    obtain ⟨i, hi, rfl⟩ := List.getElem_of_mem hx
    have := h i hi
    rw [List.getD_eq_getElem?_getD, List.getElem?_eq_getElem hi] at this
    simp only [Bool.and_eq_true, decide_eq_true_eq]
    exact ⟨this.1, this.2⟩

theorem allN_in (xs : List Int) (b c : Int) : allN (fun i => decide (xs.getD i 0 ≥ b) && decide (xs.getD i 0 ≤ c)) xs.length 0 = allIn xs b c := by
  rw [Bool.eq_iff_iff, allN_iff, allIn_iff]
  constructor
  · intro h i hi
    have := h i (by omega) (by omega)
    simp only [Bool.and_eq_true, decide_eq_true_eq] at this
    exact ⟨this.1, this.2⟩
  · intro h i _ hi
    have := h i (by omega)
    simp only [Bool.and_eq_true, decide_eq_true_eq]
    exact ⟨this.1, this.2⟩

theorem areWithin64 {xs : List Int} {b c : Int} (h : xs.length ≤ 4294967296) : impl_areWithin xs b c = some (allIn xs b c) := by
  unfold impl_areWithin
  have := rounds_all (f := impl_areWithin_B1 xs b c) (fun i => ((i : Nat) : Int)) (fun i => decide (xs.getD i 0 ≥ b) && decide (xs.getD i 0 ≤ c)) (Sum.inl ()) (Sum.inr ()) (n := xs.length) (fun i hi => by
    unfold impl_areWithin_B1
    simp only [ltN hi, cond_true, guard_pos (idxN hi), Int.toNat_natCast, within64, Option.bind_some, nextN hi h]
    cases (decide (xs.getD i 0 ≥ b) && decide (xs.getD i 0 ≤ c)) <;> rfl) (by
    unfold impl_areWithin_B1
    simp only [geN (Nat.le_refl _), cond_false]) xs.length 0 (by omega)
  rw [allN_in] at this
  simp only [Int.natCast_zero] at this
  simp only [this, Option.bind_some]
  cases allIn xs b c <;> rfl

theorem isWord64 {xs : List Int} {L : Int} (h : xs.length ≤ 4294967296) : impl_IsWord xs L = some ((decide (L ≥ 1) && decide (L ≤ 4)) && (decide (lenI xs ≤ 12) && allIn xs 0 (wsub .i64 L 1))) := by
  unfold impl_IsWord
  rw [within64, areWithin64 h]
  cases (decide (L ≥ 1) && decide (L ≤ 4)) <;> cases decide (lenI xs ≤ 12) <;> simp

def Letters (c : Nat) (xs : List Int) : Prop := ∀ i, i < xs.length → ∃ a : Nat, xs.getD i 0 = (a : Int) ∧ a < c

structure Plain (m c : Nat) (nx : List Int) (es : List Bool) : Prop where
  m1 : 1 ≤ m
  m2 : m ≤ 64
  c1 : 1 ≤ c
  c2 : c ≤ 4
  len : nx.length = m * c
  ends : es.length = m
  to : ∀ i, i < m * c → ∃ t : Nat, nx.getD i 0 = (t : Int) ∧ t < m

section
variable {m c : Nat} {nx : List Int} {es : List Bool} (hp : Plain m c nx es)
include hp

end

end Go.Proofs


/-
  Models of chances: when they are valid.
-/
namespace Go.Proofs
open Go.Ide Go.IntWalk

def share (x : Nat) : Bool := fge .f32 x 0 && fle .f32 x 1065353216

theorem bd_share {x : Nat} (h : share x = true) : bd x 127 := by
  unfold share at h
  rw [Bool.and_eq_true] at h
  exact share_bd h.1 h.2

def nearOne (s : Nat) : Bool := fle .f32 (fop .sub .f32 s 1065353216) 981668463 && fge .f32 (fop .sub .f32 s 1065353216) 3129152111

theorem absOne (s : Nat) : (impl_absolute (fop .sub .f32 s 1065353216)).bind (fun y => some (fle .f32 y 981668463)) = some (nearOne s) := by
  unfold nearOne
  rw [near_abs (c := 981668463) (nc := 3129152111) (mc := 8388608 + 981668463 % 8388608) (pc := -149 + ((981668463 / 8388608 - 1 : Nat) : Int)) (by decide) (by decide)]
  unfold impl_absolute
  cases flt .f32 (fop .sub .f32 s 1065353216) 0 <;> rfl

def sumF (xs : List Nat) : Nat → Nat
  | 0 => 0
  | i + 1 => fop .add .f32 (sumF xs i) (xs.getD i 0)

def okRow (xs : List Nat) : Bool := allN (fun i => share (xs.getD i 0)) xs.length 0 && nearOne (sumF xs xs.length)

theorem implSum {xs : List Nat} (h : xs.length ≤ 4294967296) : impl_addUp xs = some (sumF xs xs.length) := by
  have := rounds_forS (f := impl_addUp_B1 xs) (fun i s => (s, ((i : Nat) : Int))) (fun i s => fop .add .f32 s (xs.getD i 0)) id (n := xs.length) (fun i s => s = sumF xs i)
    (fun i s hi hs => ⟨by
      unfold impl_addUp_B1
      simp only [ltN hi, cond_true, guard_pos (idxN hi), Int.toNat_natCast, nextN hi h], by rw [hs]; rfl⟩)
    (fun s hs => by
      unfold impl_addUp_B1
      simp only [geN (Nat.le_refl _), cond_false]; rfl) xs.length 0 0 (by omega) rfl
  unfold impl_addUp
  simp only [Int.natCast_zero] at this
  rw [this.1]
  simp only [id, Option.bind_some, this.2]

theorem implRow {xs : List Nat} (h : xs.length ≤ 4294967296) : impl_areChances xs = some (okRow xs) := by
  unfold impl_areChances okRow
  have := rounds_all (f := impl_areChances_B1 xs) (fun i => ((i : Nat) : Int)) (fun i => share (xs.getD i 0)) (Sum.inl ()) (Sum.inr ()) (n := xs.length) (fun i hi => by
    unfold impl_areChances_B1
    simp only [ltN hi, cond_true, guard_pos (idxN hi), Int.toNat_natCast, nextN hi h]
    unfold share
    cases fge .f32 (xs.getD i 0) 0 <;> cases fle .f32 (xs.getD i 0) 1065353216 <;> rfl) (by
    unfold impl_areChances_B1
    simp only [geN (Nat.le_refl _), cond_false]) xs.length 0 (by omega)
  simp only [Int.natCast_zero] at this
  rw [this]
  cases allN (fun i => share (xs.getD i 0)) xs.length 0 with
  | false => rfl
  | true =>
    simp only [cond_true, Option.bind_some, Bool.true_and, implSum h]
    exact absOne _

def rowF (xs : List Nat) (w i : Nat) : List Nat := (xs.drop (i * w)).take w

theorem rowF_len {xs : List Nat} {w i n : Nat} (h : xs.length = n * w) (hi : i < n) : (rowF xs w i).length = w := by
  have : (i + 1) * w ≤ n * w := Nat.mul_le_mul_right _ hi
  rw [Nat.succ_mul] at this
  unfold rowF
  simp; omega

theorem rowF_get {xs : List Nat} {w i n k : Nat} (h : xs.length = n * w) (hi : i < n) (hk : k < w) : (rowF xs w i).getD k 0 = xs.getD (i * w + k) 0 := by
  unfold rowF
  simp only [List.getD_eq_getElem?_getD]
  rw [List.getElem?_take_of_lt hk, List.getElem?_drop]

def okModel (n k : Int) (fs ss hs : List Nat) : Bool :=
  (decide (n ≥ 1) && decide (n ≤ 5)) && ((decide (k ≥ 1) && decide (k ≤ 4)) && ((lenI fs == n) && ((lenI ss == wmul .i64 n n) && ((lenI hs == wmul .i64 n k) && (okRow fs &&
    (allN (fun i => okRow (rowF ss n.toNat i)) n.toNat 0 && allN (fun i => okRow (rowF hs k.toNat i)) n.toNat 0))))))

theorem cutRow {xs : List Nat} {w n i : Nat} (hn : n ≤ 1000) (hw : w ≤ 1000) (hi : i < n) : cut xs (wmul .i64 (i : Int) (w : Int)) (wadd .i64 (wmul .i64 (i : Int) (w : Int)) (w : Int)) = rowF xs w i ∧
    wmul .i64 (i : Int) (w : Int) = ((i * w : Nat) : Int) ∧ wadd .i64 (wmul .i64 (i : Int) (w : Int)) (w : Int) = ((i * w + w : Nat) : Int) ∧ wmul .i64 (wadd .i64 (i : Int) 1) (w : Int) = ((i * w + w : Nat) : Int) := by
  have h1 : i * w ≤ 1000 * 1000 := Nat.mul_le_mul (by omega) hw
  have h2 : (i + 1) * w ≤ 1001 * 1000 := Nat.mul_le_mul (by omega) hw
  rw [Nat.succ_mul] at h2
  have e1 : wmul .i64 (i : Int) (w : Int) = ((i * w : Nat) : Int) := by rw [wmulI (by rw [← Int.natCast_mul]; omega), ← Int.natCast_mul]
  have e2 : wadd .i64 ((i * w : Nat) : Int) (w : Int) = ((i * w + w : Nat) : Int) := by rw [waddI (by omega)]; omega
  have e3 : wmul .i64 (wadd .i64 (i : Int) 1) (w : Int) = ((i * w + w : Nat) : Int) := by
    rw [waddI (by omega), show (i : Int) + 1 = ((i + 1 : Nat) : Int) by omega, wmulI (by rw [← Int.natCast_mul, Nat.succ_mul]; omega), ← Int.natCast_mul, Nat.succ_mul]
  refine ⟨?_, e1, by rw [e1, e2], e3⟩
  rw [e1, e2]
  unfold cut rowF
  simp only [Int.toNat_natCast]
  rw [show i * w + w - i * w = w by omega]

theorem row_in {xs : List Nat} {w n i : Nat} (h : xs.length = n * w) (hi : i < n) : i * w + w ≤ xs.length := by
  have : (i + 1) * w ≤ n * w := Nat.mul_le_mul_right _ hi
  rw [Nat.succ_mul] at this
  omega

theorem implRows {xs : List Nat} {n w : Nat} (hn : n ≤ 1000) (hw : w ≤ 1000) : impl_areRows xs (n : Int) (w : Int) = some ((lenI xs == wmul .i64 (n : Int) (w : Int)) && allN (fun i => okRow (rowF xs w i)) n 0) := by
  unfold impl_areRows
  have e : wmul .i64 (n : Int) (w : Int) = ((n * w : Nat) : Int) := by
    have : n * w ≤ 1000 * 1000 := Nat.mul_le_mul hn hw
    rw [wmulI (by rw [← Int.natCast_mul]; omega), ← Int.natCast_mul]
  cases hl : (lenI xs == wmul .i64 (n : Int) (w : Int)) with
  | false => simp [bne, hl]
  | true =>
    have hlen : xs.length = n * w := by
      rw [e] at hl
      have := eq_of_beq hl
      simp only [lenI] at this
      omega
    have := rounds_all (f := impl_areRows_B1 xs (n : Int) (w : Int)) (fun i => ((i : Nat) : Int)) (fun i => okRow (rowF xs w i)) (Sum.inl ()) (Sum.inr ()) (n := n) (fun i hi => by
      obtain ⟨c1, c2, c3, c4⟩ := cutRow (xs := xs) hn hw hi
      have hin := row_in hlen hi
      unfold impl_areRows_B1 impl_rowOf_float32
      rw [c3, c2] at c1
      simp only [ltN hi, cond_true, c2, c4, c1]
      rw [guard_pos ⟨by omega, by omega, by omega, by simp only [lenI]; omega⟩]
      have hr : (rowF xs w i).length ≤ 4294967296 := by rw [rowF_len hlen hi]; omega
      simp only [Option.bind_some, implRow hr, nextN hi (by omega)]
      cases okRow (rowF xs w i) <;> rfl) (by
      unfold impl_areRows_B1
      simp only [geN (Nat.le_refl _), cond_false]) n 0 (by omega)
    simp only [Int.natCast_zero] at this
    simp only [bne, hl, Bool.not_true, cond_false, this, Option.bind_some, Bool.true_and]
    cases allN (fun i => okRow (rowF xs w i)) n 0 <;> rfl

theorem rowF_all {xs : List Nat} {n : Nat} (h : xs.length = n) : rowF xs n 0 = xs := by
  unfold rowF
  rw [Nat.zero_mul, List.drop_zero, ← h, List.take_length]

theorem implModel {n k : Int} {fs ss hs : List Nat} : impl_ValidModel (n, k, fs, ss, hs) = some (okModel n k fs ss hs) := by
  unfold impl_ValidModel okModel
  simp only [within64, Option.bind_some]
  cases hn : (decide (n ≥ 1) && decide (n ≤ 5)) with
  | false => rfl
  | true =>
    cases hk : (decide (k ≥ 1) && decide (k ≤ 4)) with
    | false => rfl
    | true =>
      simp only [Bool.and_eq_true, decide_eq_true_eq] at hn hk
      obtain ⟨a, rfl⟩ : ∃ a : Nat, n = (a : Int) := ⟨n.toNat, by omega⟩
      obtain ⟨b, rfl⟩ : ∃ b : Nat, k = (b : Int) := ⟨k.toNat, by omega⟩
      have e1 := implRows (xs := fs) (n := 1) (w := a) (by omega) (by omega)
      have e0 : wmul .i64 ((1 : Nat) : Int) (a : Int) = (a : Int) := by rw [wmulI (by omega)]; omega
      rw [e0] at e1
      have e2 := implRows (xs := ss) (n := a) (w := a) (by omega) (by omega)
      have e3 := implRows (xs := hs) (n := a) (w := b) (by omega) (by omega)
      simp only [Int.natCast_one] at e1
      simp only [e1, e2, e3, cond_true, Option.bind_some, Int.toNat_natCast, Bool.true_and]
      have hr : lenI fs = (a : Int) → allN (fun i => okRow (rowF fs a i)) 1 0 = okRow fs := by
        intro h
        simp only [allN, Bool.and_true]
        rw [rowF_all (by simp only [lenI] at h; omega)]
      cases h1 : (lenI fs == (a : Int)) with
      | false => rfl
      | true =>
        rw [hr (eq_of_beq h1)]
        cases okRow fs <;> cases (lenI ss == wmul .i64 (a : Int) (a : Int)) <;> cases (lenI hs == wmul .i64 (a : Int) (b : Int)) <;> cases allN (fun i => okRow (rowF ss a i)) a 0 <;> cases allN (fun i => okRow (rowF hs b i)) a 0 <;> rfl

end Go.Proofs


/-
  Valid models and their words; HiddenChance.
-/
namespace Go.Proofs
open Go.Ide Go.IntWalk

structure Model (a b : Nat) (fs ss hs : List Nat) : Prop where
  n1 : 1 ≤ a
  n2 : a ≤ 5
  k1 : 1 ≤ b
  k2 : b ≤ 4
  lf : fs.length = a
  ls : ss.length = a * a
  lh : hs.length = a * b
  sf : ∀ i, i < a → bd (fs.getD i 0) 127
  st : ∀ i j, i < a → j < a → bd (ss.getD (i * a + j) 0) 127
  sh : ∀ i j, i < a → j < b → bd (hs.getD (i * b + j) 0) 127

theorem okRow_bd {xs : List Nat} (h : okRow xs = true) {i : Nat} (hi : i < xs.length) : bd (xs.getD i 0) 127 := by
  unfold okRow at h
  rw [Bool.and_eq_true] at h
  exact bd_share (allN_iff.1 h.1 i (by omega) (by omega))

theorem model_of {n k : Int} {fs ss hs : List Nat} (h : okModel n k fs ss hs = true) : ∃ a b : Nat, n = (a : Int) ∧ k = (b : Int) ∧ Model a b fs ss hs := by
  unfold okModel at h
  simp only [Bool.and_eq_true, decide_eq_true_eq, beq_iff_eq] at h
  obtain ⟨⟨h1, h2⟩, ⟨h3, h4⟩, h5, h6, h7, h8, h9, h10⟩ := h
  obtain ⟨a, rfl⟩ : ∃ a : Nat, n = (a : Int) := ⟨n.toNat, by omega⟩
  obtain ⟨b, rfl⟩ : ∃ b : Nat, k = (b : Int) := ⟨k.toNat, by omega⟩
  have m1 : a * a ≤ 5 * 5 := Nat.mul_le_mul (by omega) (by omega)
  have m2 : a * b ≤ 5 * 4 := Nat.mul_le_mul (by omega) (by omega)
  rw [wmulI (by rw [← Int.natCast_mul]; omega), ← Int.natCast_mul] at h6
  rw [wmulI (by rw [← Int.natCast_mul]; omega), ← Int.natCast_mul] at h7
  simp only [lenI] at h5 h6 h7
  have l1 : fs.length = a := by omega
  have l2 : ss.length = a * a := by omega
  have l3 : hs.length = a * b := by omega
  simp only [Int.toNat_natCast] at h9 h10
  refine ⟨a, b, rfl, rfl, by omega, by omega, by omega, by omega, l1, l2, l3, fun i hi => okRow_bd h8 (by omega), fun i j hi hj => ?_, fun i j hi hj => ?_⟩
  · rw [← rowF_get l2 hi hj]
    exact okRow_bd (allN_iff.1 h9 i (by omega) (by omega)) (by rw [rowF_len l2 hi]; exact hj)
  · rw [← rowF_get l3 hi hj]
    exact okRow_bd (allN_iff.1 h10 i (by omega) (by omega)) (by rw [rowF_len l3 hi]; exact hj)

def okMWord (n k : Int) (fs ss hs : List Nat) (w : List Int) : Bool := okModel n k fs ss hs && (allIn w 0 (wsub .i64 k 1) && decide (lenI w ≤ 12))

theorem implMWord {n k : Int} {fs ss hs : List Nat} {w : List Int} (h : w.length ≤ 4294967296) : impl_Model_has (n, k, fs, ss, hs) w = some (okMWord n k fs ss hs w) := by
  unfold impl_Model_has okMWord
  simp only [implModel, isWord64 h, Option.bind_some]
  cases hm : okModel n k fs ss hs with
  | false => rfl
  | true =>
    obtain ⟨a, b, rfl, rfl, m⟩ := model_of hm
    have := m.k1
    have := m.k2
    rw [decide_eq_true (show (b : Int) ≥ 1 by omega), decide_eq_true (show (b : Int) ≤ 4 by omega)]
    cases allIn w 0 (wsub .i64 (b : Int) 1) <;> cases decide (lenI w ≤ 12) <;> rfl

def okStates (n : Int) (w s : List Int) : Bool := allIn s 0 (wsub .i64 n 1) && (lenI s == wadd .i64 (lenI w) 1)

theorem implMStates {n k : Int} {fs ss hs : List Nat} {w s : List Int} (h : s.length ≤ 4294967296) : impl_Model_areHidden (n, k, fs, ss, hs) w s = some (okStates n w s) := by
  unfold impl_Model_areHidden okStates
  simp only [areWithin64 h, Option.bind_some]
  cases (lenI s == wadd .i64 (lenI w) 1) <;> cases allIn s 0 (wsub .i64 n 1) <;> rfl

theorem states_of {a : Nat} {w s : List Int} (ha : 1 ≤ a) (ha2 : a ≤ 5) (hw : w.length ≤ 12) (h : okStates (a : Int) w s = true) : s.length = w.length + 1 ∧ Letters a s := by
  unfold okStates at h
  simp only [Bool.and_eq_true, beq_iff_eq, lenI] at h
  rw [wsubI (by omega), waddI (by omega)] at h
  refine ⟨by omega, fun i hi => ?_⟩
  have := allIn_iff.1 h.1 i hi
  exact ⟨(s.getD i 0).toNat, by omega, by omega⟩

theorem cellM {a b i j : Nat} (ha : a ≤ 5) (hb : b ≤ 5) (hi : i < a) (hj : j < b) : wadd .i64 (wmul .i64 (i : Int) (b : Int)) (j : Int) = ((i * b + j : Nat) : Int) ∧ i * b + j < a * b := by
  refine ⟨cellN (by omega) (by omega) (by omega), ?_⟩
  have : (i + 1) * b ≤ a * b := Nat.mul_le_mul_right _ hi
  rw [Nat.succ_mul] at this
  omega

theorem finite_bd {x : Nat} {K : Nat} (h : bd x K) (h2 : 2 ≤ K) (h3 : K ≤ 254) : impl_finite x = some (x, true) := by
  unfold impl_finite impl_IsFinite
  rw [sub_self32 h h2 h3]
  rfl

def hidStep (a b : Nat) (ss hs : List Nat) (w s : List Int) (i : Nat) (x : Nat) : Nat :=
  fop .mul .f32 (fop .mul .f32 x (hs.getD ((s.getD i 0).toNat * b + (w.getD i 0).toNat) 0)) (ss.getD ((s.getD i 0).toNat * a + (s.getD (i + 1) 0).toNat) 0)

theorem hid_bd {a b : Nat} {fs ss hs : List Nat} (m : Model a b fs ss hs) {w s : List Int} (hw : Letters b w) (hs' : Letters a s) (hl : s.length = w.length + 1) {i x : Nat} (hi : i < w.length) (hx : bd x 127) : bd (hidStep a b ss hs w s i x) 127 := by
  obtain ⟨c, hc, hc2⟩ := hw i hi
  obtain ⟨p, hp, hp2⟩ := hs' i (by omega)
  obtain ⟨q, hq, hq2⟩ := hs' (i + 1) (by omega)
  unfold hidStep
  rw [hc, hp, hq]
  simp only [Int.toNat_natCast]
  have h1 : bd (fop .mul .f32 x (hs.getD (p * b + c) 0)) 127 := bd_mul hx (m.sh p c hp2 hc2) (by omega) (by omega) (by omega) (by omega) (by omega) (by omega)
  exact bd_mul h1 (m.st p q hp2 hq2) (by omega) (by omega) (by omega) (by omega) (by omega) (by omega)

end Go.Proofs


/-
  Chances forward; ChanceOf.
-/
namespace Go.Proofs
open Go.Ide Go.IntWalk

def cellF (a b : Nat) (ss hs row : List Nat) (c j : Nat) : Nat → Nat
  | 0 => 0
  | p + 1 => fop .add .f32 (cellF a b ss hs row c j p) (fop .mul .f32 (fop .mul .f32 (row.getD p 0) (hs.getD (p * b + c) 0)) (ss.getD (p * a + j) 0))

def nextF (a b : Nat) (ss hs row : List Nat) (c : Nat) : List Nat := (List.range a).map fun j => cellF a b ss hs row c j a

theorem nextF_len (a b : Nat) (ss hs row : List Nat) (c : Nat) : (nextF a b ss hs row c).length = a := by simp [nextF]

theorem nextF_get {a b : Nat} {ss hs row : List Nat} {c j : Nat} (hj : j < a) : (nextF a b ss hs row c).getD j 0 = cellF a b ss hs row c j a := by
  unfold nextF
  simp [List.getD_eq_getElem?_getD, hj]

theorem loop_to0 {f : Int × List Nat → Option ((Int × List Nat) ⊕ List Nat)} (xs : List Nat)
    (hstep : ∀ (i : Nat) (out : List Nat), i < xs.length → out.length = xs.length → out.getD i 0 = 0 → f ((i : Int), out) = some (.inl (((i + 1 : Nat) : Int), out.set i (xs.getD i 0))))
    (hend : ∀ out : List Nat, out.length = xs.length → f (((xs.length : Nat) : Int), out) = some (.inr out)) : rounds f ((0 : Int), List.replicate xs.length 0) = some xs := by
  have := rounds_forS (f := f) (fun i out => (((i : Nat) : Int), out)) (fun i out => out.set i (xs.getD i 0)) id (n := xs.length) (fun i out => out = xs.take i ++ List.replicate (xs.length - i) 0)
    (fun i out hi h => ⟨hstep i out hi (by rw [h]; simp; omega) (by
      rw [h, List.getD_eq_getElem?_getD, List.getElem?_append_right (by simp; omega)]
      simp only [List.length_take, List.getElem?_replicate]
      split <;> rfl), by
      rw [h, take_snoc hi 0, show xs.length - i = (xs.length - (i + 1)) + 1 from by omega, List.replicate_succ, set_at (by simp; omega)]
      simp⟩)
    (fun out h => hend out (by rw [h]; simp)) xs.length 0 (List.replicate xs.length 0) (by omega) (by simp)
  simp only [Int.natCast_zero] at this
  rw [this.1, this.2]
  simp

theorem implNext {a b : Nat} {fs ss hs : List Nat} (m : Model a b fs ss hs) {row : List Nat} {c : Nat} (hc : c < b) (hr : row.length = a) : impl_Model_nextRow ((a : Int), (b : Int), fs, ss, hs) row (c : Int) = some (nextF a b ss hs row c) := by
  have hn2 := m.n2
  have hk2 := m.k2
  have hls := m.ls
  have hlh := m.lh
  have hnl := nextF_len a b ss hs row c
  have := loop_to0 (f := impl_Model_nextRow_B2 ((a : Int), (b : Int), fs, ss, hs) row (c : Int)) (nextF a b ss hs row c)
    (fun j out hj ho h0 => by
      rw [hnl] at hj ho
      have := rounds_forS (f := impl_Model_nextRow_B1 ((a : Int), (b : Int), fs, ss, hs) row (c : Int) ((j : Int), out)) (fun p s => (((p : Nat) : Int), s))
        (fun p s => s.set j (fop .add .f32 (s.getD j 0) (fop .mul .f32 (fop .mul .f32 (row.getD p 0) (hs.getD (p * b + c) 0)) (ss.getD (p * a + j) 0)))) id (n := a) (fun p s => s = out.set j (cellF a b ss hs row c j p))
        (fun p s hp hs' => ⟨by
          obtain ⟨e1, e2⟩ := cellM (a := a) (b := b) (by omega) (by omega) hp hc
          obtain ⟨e3, e4⟩ := cellM (a := a) (b := a) (by omega) (by omega) hp hj
          have hsl : s.length = a := by rw [hs']; simp [ho]
          have j0 := idxN (i := j) (n := s.length) (by omega)
          have j1 := idxN (i := p) (n := row.length) (by omega)
          have j3 := idxN (i := p * b + c) (n := hs.length) (by omega)
          have j4 := idxN (i := p * a + j) (n := ss.length) (by omega)
          unfold impl_Model_nextRow_B1 impl_Model_show impl_Model_step
          simp only [ltN hp, cond_true, Int.toNat_natCast, nextN hp (show a ≤ 4294967296 by omega), e1, e3]
          rw [guard_pos j0, guard_pos j1, guard_pos j3, Option.bind_some, guard_pos j4, Option.bind_some], by
          rw [hs']
          have : (out.set j (cellF a b ss hs row c j p)).getD j 0 = cellF a b ss hs row c j p := by
            simp [List.getD_eq_getElem?_getD, ho, hj]
          rw [this, List.set_set]
          rfl⟩)
        (fun s _ => by
          unfold impl_Model_nextRow_B1
          simp only [geN (Nat.le_refl _), cond_false]; rfl) a 0 out (by omega) (by
          show out = out.set j 0
          apply List.ext_getElem (by simp)
          intro i h1 h2
          rw [List.getElem_set]
          split
          · rename_i e
            subst e
            simpa [List.getD_eq_getElem?_getD, List.getElem?_eq_getElem h1] using h0
          · rfl)
      simp only [Int.natCast_zero] at this
      unfold impl_Model_nextRow_B2
      simp only [ltN hj, cond_true, this.1, id, Option.bind_some, nextN hj (show a ≤ 4294967296 by omega)]
      rw [this.2, nextF_get hj])
    (fun out _ => by
      unfold impl_Model_nextRow_B2
      rw [hnl]
      simp only [geN (Nat.le_refl _), cond_false])
  unfold impl_Model_nextRow
  rw [guard_pos ⟨by omega, by simp only; omega⟩]
  simp only [Int.toNat_natCast]
  rw [hnl] at this
  rw [this]
  rfl

def rowAt (a b : Nat) (fs ss hs : List Nat) (w : List Int) : Nat → List Nat
  | 0 => fs
  | i + 1 => nextF a b ss hs (rowAt a b fs ss hs w i) (w.getD i 0).toNat

theorem rowAt_len {a b : Nat} {fs ss hs : List Nat} (m : Model a b fs ss hs) (w : List Int) : ∀ i, (rowAt a b fs ss hs w i).length = a
  | 0 => m.lf
  | i + 1 => nextF_len ..

def rowsF (a b : Nat) (fs ss hs : List Nat) (w : List Int) : List (List Nat) := (List.range (w.length + 1)).map (rowAt a b fs ss hs w)

theorem rows_at (h : Nat → List Nat) (i : Nat) : ((List.range (i + 1)).map h).getD i [] = h i := by
  simp [List.getD_eq_getElem?_getD]

theorem implForward {a b : Nat} {fs ss hs : List Nat} (m : Model a b fs ss hs) {w : List Int} (hw : Letters b w) (hl : w.length ≤ 12) : impl_Model_forward ((a : Int), (b : Int), fs, ss, hs) w = some (rowsF a b fs ss hs w) := by
  have := rounds_forS (f := impl_Model_forward_B1 ((a : Int), (b : Int), fs, ss, hs) w) (fun i out => (((i : Nat) : Int), out)) (fun i out => out ++ [rowAt a b fs ss hs w (i + 1)]) id (n := w.length) (fun i out => out = (List.range (i + 1)).map (rowAt a b fs ss hs w))
    (fun i out hi ho => ⟨by
      obtain ⟨c, hc, hc2⟩ := hw i hi
      have e : out.getD i [] = rowAt a b fs ss hs w i := by rw [ho]; exact rows_at _ _
      have hlo : out.length = i + 1 := by rw [ho]; simp
      have j1 := idxN (i := i) (n := out.length) (by omega)
      unfold impl_Model_forward_B1
      simp only [ltN hi, cond_true, Int.toNat_natCast, nextN hi (show w.length ≤ 4294967296 by omega), e, hc, implNext m hc2 (rowAt_len m w i), Option.bind_some]
      rw [guard_pos (idxN hi), guard_pos j1, guard_pos (by simp only [hlo, List.length_singleton, appMax]; omega), rowAt, hc, Int.toNat_natCast], by
      rw [ho, List.range_succ (n := i + 1), List.map_append]; rfl⟩)
    (fun out _ => by
      unfold impl_Model_forward_B1
      simp only [geN (Nat.le_refl _), cond_false]; rfl) w.length 0 [fs] (by omega) rfl
  simp only [Int.natCast_zero] at this
  unfold impl_Model_forward
  have hcl : slices_Clone fs = some fs := by
    have := m.lf
    have := m.n2
    unfold slices_Clone
    rw [guard_pos (by simp only [appMax]; omega)]
  rw [hcl]
  simp only [Option.bind_some]
  rw [this.1]
  simp only [id, Option.bind_some, this.2, rowsF]

end Go.Proofs


/-
  The likeliest hidden states; BestHidden.
-/
namespace Go.Proofs
open Go.Ide Go.IntWalk

section
variable {a b : Nat} {fs ss hs : List Nat}

def bestT (a b : Nat) (ss hs row : List Nat) (c j p : Nat) : Nat := fop .mul .f32 (fop .mul .f32 (row.getD p 0) (hs.getD (p * b + c) 0)) (ss.getD (p * a + j) 0)

def bestF (a b : Nat) (ss hs row : List Nat) (c j : Nat) : Nat → Nat × Nat
  | 0 => (0, 0)
  | p + 1 => bif (p == 0 || fgt .f32 (bestT a b ss hs row c j p) (bestF a b ss hs row c j p).2) then (p, bestT a b ss hs row c j p) else bestF a b ss hs row c j p

def bestRow (a b : Nat) (ss hs row : List Nat) (c : Nat) : List Nat := (List.range a).map fun j => (bestF a b ss hs row c j a).2
def bestBack (a b : Nat) (ss hs row : List Nat) (c : Nat) : List Int := (List.range a).map fun j => ((bestF a b ss hs row c j a).1 : Int)

theorem bestF_ok (m : Model a b fs ss hs) {row : List Nat} {c j : Nat} (hc : c < b) (hj : j < a) (h : ∀ i, i < a → bd (row.getD i 0) 127) : ∀ p, p ≤ a → (bestF a b ss hs row c j p).1 < a ∧ bd (bestF a b ss hs row c j p).2 127
  | 0, _ => ⟨m.n1, by show bd 0 127; unfold bd; omega⟩
  | p + 1, hp => by
    have ih := bestF_ok m hc hj h p (by omega)
    have h1 : bd (fop .mul .f32 (row.getD p 0) (hs.getD (p * b + c) 0)) 127 := bd_mul (h p (by omega)) (m.sh p c (by omega) hc) (by omega) (by omega) (by omega) (by omega) (by omega) (by omega)
    have h2 : bd (bestT a b ss hs row c j p) 127 := bd_mul h1 (m.st p j (by omega) hj) (by omega) (by omega) (by omega) (by omega) (by omega) (by omega)
    rw [bestF]
    cases (p == 0 || fgt .f32 (bestT a b ss hs row c j p) (bestF a b ss hs row c j p).2) with
    | true => exact ⟨by show p < a; omega, h2⟩
    | false => exact ih

def bestAt (a b : Nat) (fs ss hs : List Nat) (w : List Int) : Nat → List Nat
  | 0 => fs
  | i + 1 => bestRow a b ss hs (bestAt a b fs ss hs w i) (w.getD i 0).toNat
def backAt (a b : Nat) (fs ss hs : List Nat) (w : List Int) (i : Nat) : List Int := bestBack a b ss hs (bestAt a b fs ss hs w i) (w.getD i 0).toNat

theorem bestAt_len (m : Model a b fs ss hs) (w : List Int) : ∀ i, (bestAt a b fs ss hs w i).length = a
  | 0 => m.lf
  | i + 1 => by simp [bestAt, bestRow]

theorem bestAt_bd (m : Model a b fs ss hs) {w : List Int} (hw : Letters b w) : ∀ i, i ≤ w.length → ∀ j, j < a → bd ((bestAt a b fs ss hs w i).getD j 0) 127
  | 0, _ => m.sf
  | i + 1, hi => fun j hj => by
    obtain ⟨c, hc, hc2⟩ := hw i (by omega)
    rw [bestAt, hc, Int.toNat_natCast]
    have := (bestF_ok m hc2 hj (bestAt_bd m hw i (by omega)) a (Nat.le_refl _)).2
    unfold bestRow
    simpa [List.getD_eq_getElem?_getD, hj] using this

theorem backAt_ok (m : Model a b fs ss hs) {w : List Int} (hw : Letters b w) {i : Nat} (hi : i < w.length) : (backAt a b fs ss hs w i).length = a ∧ Letters a (backAt a b fs ss hs w i) := by
  obtain ⟨c, hc, hc2⟩ := hw i hi
  have hl : (backAt a b fs ss hs w i).length = a := by simp [backAt, bestBack]
  refine ⟨hl, fun j hj => ?_⟩
  rw [hl] at hj
  refine ⟨(bestF a b ss hs (bestAt a b fs ss hs w i) c j a).1, ?_, (bestF_ok m hc2 hj (bestAt_bd m hw i (by omega)) a (Nat.le_refl _)).1⟩
  unfold backAt bestBack
  rw [hc, Int.toNat_natCast]
  simp [List.getD_eq_getElem?_getD, hj]

def argF (row : List Nat) : Nat → Nat
  | 0 => 0
  | i + 1 => bif fgt .f32 (row.getD i 0) (row.getD (argF row i) 0) then i else argF row i

theorem argF_lt {row : List Nat} {n : Nat} (hn : 1 ≤ n) : ∀ i, i ≤ n → argF row i < n
  | 0, _ => hn
  | i + 1, hi => by
    rw [argF]
    cases fgt .f32 (row.getD i 0) (row.getD (argF row i) 0) with
    | true => exact hi
    | false => exact argF_lt hn i (by omega)

theorem implArg {row : List Nat} {bs : List (List Int)} (h1 : 1 ≤ row.length) (h2 : row.length ≤ 1000) : rounds (impl_BestHidden_B2 (row, bs)) ((0 : Int), (0 : Int)) = some (argF row row.length : Int) := by
  have r := rounds_forS (f := impl_BestHidden_B2 (row, bs)) (fun i (s : Nat) => ((s : Int), ((i : Nat) : Int))) (fun i s => bif fgt .f32 (row.getD i 0) (row.getD s 0) then i else s) (fun s => (s : Int)) (n := row.length) (fun i s => s = argF row i)
    (fun i s hi hs0 => ⟨by
      have hlt : s < row.length := by rw [hs0]; exact argF_lt h1 i (by omega)
      unfold impl_BestHidden_B2
      simp only [ltN hi, cond_true, Int.toNat_natCast, nextN hi (show row.length ≤ 4294967296 by omega)]
      rw [guard_pos (idxN hi), guard_pos (idxN hlt)]
      cases fgt .f32 (row.getD i 0) (row.getD s 0) <;> rfl, by rw [hs0]; rfl⟩)
    (fun s _ => by
      unfold impl_BestHidden_B2
      simp only [geN (Nat.le_refl _), cond_false]) row.length 0 0 (by omega) rfl
  simp only [Int.natCast_zero] at r
  rw [r.1, r.2]

end

end Go.Proofs


/-
  BestHidden: the program's rows; the ways back.
-/
namespace Go.Proofs
open Go.Ide Go.IntWalk

section
variable {a b : Nat} {fs ss hs : List Nat}

def part {α : Type} (h : Nat → α) (d : α) (n i : Nat) : List α := (List.range i).map h ++ List.replicate (n - i) d

theorem part_next {α : Type} {h : Nat → α} {d : α} {n i : Nat} (hi : i < n) : (List.range i).map h ++ h i :: List.replicate (n - (i + 1)) d = part h d n (i + 1) := by
  unfold part
  rw [List.range_succ, List.map_append]
  simp

theorem mid_get {α : Type} {h : Nat → α} {d v : α} {n i : Nat} (dd : α) : ((List.range i).map h ++ v :: List.replicate (n - (i + 1)) d).getD i dd = v := by
  rw [List.getD_eq_getElem?_getD, List.getElem?_append_right (by simp)]
  simp

theorem mid_set {α : Type} {h : Nat → α} {d v v' : α} {n i : Nat} : ((List.range i).map h ++ v :: List.replicate (n - (i + 1)) d).set i v' = (List.range i).map h ++ v' :: List.replicate (n - (i + 1)) d := set_at (by simp)

theorem mid_len {α : Type} {h : Nat → α} {d v : α} {n i : Nat} (hi : i < n) : ((List.range i).map h ++ v :: List.replicate (n - (i + 1)) d).length = n := by simp; omega

theorem implBestRow (m : Model a b fs ss hs) {row : List Nat} {w : List Int} {i c : Nat} (hi : i < w.length) (hwc : w.getD i 0 = (c : Int)) (hc : c < b) (hr : row.length = a) (l1 : List (List Int)) :
    rounds (impl_BestHidden_B4 ((a : Int), (b : Int), fs, ss, hs) w ((i : Int), row, l1)) ((0 : Int), List.replicate a (0 : Nat), List.replicate a (0 : Int)) = some (bestRow a b ss hs row c, bestBack a b ss hs row c) := by
  have hn2 := m.n2
  have hk2 := m.k2
  have hls := m.ls
  have hlh := m.lh
  have r := rounds_forS (f := impl_BestHidden_B4 ((a : Int), (b : Int), fs, ss, hs) w ((i : Int), row, l1)) (fun j (s : List Nat × List Int) => (((j : Nat) : Int), s.1, s.2))
    (fun j s => (part (fun j => (bestF a b ss hs row c j a).2) 0 a (j + 1), part (fun j => ((bestF a b ss hs row c j a).1 : Int)) 0 a (j + 1))) (fun s => (s.1, s.2)) (n := a) (fun j s => s = (part (fun j => (bestF a b ss hs row c j a).2) 0 a j, part (fun j => ((bestF a b ss hs row c j a).1 : Int)) 0 a j))
    (fun j s hj hs0 => ⟨by
      subst hs0
      have r := rounds_forS (f := impl_BestHidden_B3 ((a : Int), (b : Int), fs, ss, hs) w ((i : Int), row, l1) ((j : Int), part (fun j => (bestF a b ss hs row c j a).2) 0 a j, part (fun j => ((bestF a b ss hs row c j a).1 : Int)) 0 a j)) (fun p (s : List Nat × List Int) => (((p : Nat) : Int), s.1, s.2))
        (fun p s => ((List.range j).map (fun j => (bestF a b ss hs row c j a).2) ++ (bestF a b ss hs row c j (p + 1)).2 :: List.replicate (a - (j + 1)) 0, (List.range j).map (fun j => ((bestF a b ss hs row c j a).1 : Int)) ++ ((bestF a b ss hs row c j (p + 1)).1 : Int) :: List.replicate (a - (j + 1)) 0)) (fun s => (s.1, s.2)) (n := a)
        (fun p s => s = ((List.range j).map (fun j => (bestF a b ss hs row c j a).2) ++ (bestF a b ss hs row c j p).2 :: List.replicate (a - (j + 1)) 0, (List.range j).map (fun j => ((bestF a b ss hs row c j a).1 : Int)) ++ ((bestF a b ss hs row c j p).1 : Int) :: List.replicate (a - (j + 1)) 0))
        (fun p s hp hs1 => ⟨by
          subst hs1
          obtain ⟨e1, e2⟩ := cellM (a := a) (b := b) (by omega) (by omega) hp hc
          obtain ⟨e3, e4⟩ := cellM (a := a) (b := a) (by omega) (by omega) hp hj
          have j1 := idxN (i := p) (n := row.length) (by omega)
          have j3 := idxN (i := p * b + c) (n := hs.length) (by omega)
          have j4 := idxN (i := p * a + j) (n := ss.length) (by omega)
          have j5 : (0 : Int) ≤ (j : Int) ∧ (j : Int) < lenI ((List.range j).map (fun j => (bestF a b ss hs row c j a).2) ++ (bestF a b ss hs row c j p).2 :: List.replicate (a - (j + 1)) 0) := by
            simp only [lenI]; rw [mid_len hj]; omega
          have j6 : (0 : Int) ≤ (j : Int) ∧ (j : Int) < lenI ((List.range j).map (fun j => ((bestF a b ss hs row c j a).1 : Int)) ++ ((bestF a b ss hs row c j p).1 : Int) :: List.replicate (a - (j + 1)) 0) := by
            simp only [lenI]; rw [mid_len hj]; omega
          have e5 : ((p : Int) == 0) = (p == 0) := by
            rw [Bool.eq_iff_iff, beq_iff_eq, beq_iff_eq]; omega
          unfold impl_BestHidden_B3 impl_Model_show impl_Model_step
          simp only [ltN hp, cond_true, Int.toNat_natCast, nextN hp (show a ≤ 4294967296 by omega), hwc, e1, e3, e5]
          rw [guard_pos j1, guard_pos j3, Option.bind_some, guard_pos j4, Option.bind_some, guard_pos j5, guard_pos j6, mid_get, mid_set, mid_set, guard_pos j5]
          rw [bestF]
          unfold bestT
          cases hp0 : (p == 0) with
          | true => rfl
          | false =>
            cases hf : fgt .f32 (fop .mul .f32 (fop .mul .f32 (row.getD p 0) (hs.getD (p * b + c) 0)) (ss.getD (p * a + j) 0)) (bestF a b ss hs row c j p).2 <;> simp [hf], rfl⟩)
        (fun s _ => by
          unfold impl_BestHidden_B3
          simp only [geN (Nat.le_refl _), cond_false]) a 0 (part (fun j => (bestF a b ss hs row c j a).2) 0 a j, part (fun j => ((bestF a b ss hs row c j a).1 : Int)) 0 a j) (by omega) (by
            unfold part
            rw [show a - j = (a - (j + 1)) + 1 by omega]
            rfl)
      simp only [Int.natCast_zero] at r
      unfold impl_BestHidden_B4
      simp only [ltN hj, cond_true, r.1, r.2, Option.bind_some, nextN hj (show a ≤ 4294967296 by omega)]
      rw [part_next (h := fun j => (bestF a b ss hs row c j a).2) hj, part_next (h := fun j => ((bestF a b ss hs row c j a).1 : Int)) hj], rfl⟩)
    (fun s _ => by
      unfold impl_BestHidden_B4
      simp only [geN (Nat.le_refl _), cond_false]) a 0 (List.replicate a 0, List.replicate a 0) (by omega) (by simp [part])
  simp only [Int.natCast_zero] at r
  rw [r.1, r.2]
  simp [part, bestRow, bestBack]

theorem implBestRows (m : Model a b fs ss hs) {w : List Int} (hw : Letters b w) (hl : w.length ≤ 12) :
    rounds (impl_BestHidden_B5 ((a : Int), (b : Int), fs, ss, hs) w) ((0 : Int), fs, ([] : List (List Int))) = some (bestAt a b fs ss hs w w.length, (List.range w.length).map (backAt a b fs ss hs w)) := by
  have hn2 := m.n2
  have r := rounds_forS (f := impl_BestHidden_B5 ((a : Int), (b : Int), fs, ss, hs) w) (fun i (s : List Nat × List (List Int)) => (((i : Nat) : Int), s.1, s.2))
    (fun i s => (bestAt a b fs ss hs w (i + 1), s.2 ++ [backAt a b fs ss hs w i])) (fun s => (s.1, s.2)) (n := w.length) (fun i s => s = (bestAt a b fs ss hs w i, (List.range i).map (backAt a b fs ss hs w)))
    (fun i s hi hs0 => ⟨by
      subst hs0
      obtain ⟨c, hc, hc2⟩ := hw i hi
      unfold impl_BestHidden_B5
      simp only [ltN hi, cond_true, nextN hi (show w.length ≤ 4294967296 by omega), Int.toNat_natCast, implBestRow m hi hc hc2 (bestAt_len m w i), Option.bind_some]
      rw [guard_pos (idxN hi), guard_pos ⟨by omega, by omega⟩, guard_pos (by simp only [List.length_map, List.length_range, List.length_singleton, appMax]; omega), bestAt, backAt, hc, Int.toNat_natCast], by
      subst hs0
      simp only [List.range_succ, List.map_append, List.map_cons, List.map_nil]⟩)
    (fun s _ => by
      unfold impl_BestHidden_B5
      simp only [geN (Nat.le_refl _), cond_false]) w.length 0 (fs, []) (by omega) rfl
  simp only [Int.natCast_zero] at r
  rw [r.1, r.2]

def stAt (bs : List (List Int)) (n z : Nat) : Nat → Nat
  | 0 => z
  | j + 1 => ((bs.getD (n - 1 - j) []).getD (stAt bs n z j) 0).toNat

def Backs (a n : Nat) (bs : List (List Int)) : Prop := bs.length = n ∧ ∀ i, i < n → (bs.getD i []).length = a ∧ Letters a (bs.getD i [])

theorem stAt_lt {bs : List (List Int)} {n z : Nat} (h : Backs a n bs) (hz : z < a) : ∀ j, j ≤ n → stAt bs n z j < a
  | 0, _ => hz
  | j + 1, hj => by
    obtain ⟨h1, h2⟩ := h.2 (n - 1 - j) (by omega)
    obtain ⟨t, ht, ht2⟩ := h2 (stAt bs n z j) (by rw [h1]; exact stAt_lt h hz j (by omega))
    rw [stAt, ht, Int.toNat_natCast]
    exact ht2

theorem stAt_step {bs : List (List Int)} {n z : Nat} (h : Backs a n bs) (hz : z < a) {j : Nat} (hj : j < n) : (bs.getD (n - 1 - j) []).getD (stAt bs n z j) 0 = (stAt bs n z (j + 1) : Int) := by
  obtain ⟨h1, h2⟩ := h.2 (n - 1 - j) (by omega)
  obtain ⟨t, ht, ht2⟩ := h2 (stAt bs n z j) (by rw [h1]; exact stAt_lt h hz j (by omega))
  rw [stAt, ht, Int.toNat_natCast]

def wayP (bs : List (List Int)) (n z i : Nat) : List Int := List.replicate (n + 1 - i) 0 ++ (List.range i).map fun k => (stAt bs n z (i - 1 - k) : Int)

theorem wayP_len {bs : List (List Int)} {n z i : Nat} (hi : i ≤ n + 1) : (wayP bs n z i).length = n + 1 := by simp [wayP]; omega

theorem wayP_set {bs : List (List Int)} {n z i : Nat} (hi : i ≤ n) : (wayP bs n z i).set (n - i) (stAt bs n z i : Int) = wayP bs n z (i + 1) := by
  unfold wayP
  rw [show n + 1 - i = (n - i) + 1 by omega, show n + 1 - (i + 1) = n - i by omega, List.replicate_succ', List.append_assoc, List.singleton_append, set_at (by simp), List.range_succ_eq_map, List.map_cons, List.map_map]
  congr 1
  rw [show i + 1 - 1 - 0 = i by omega]
  congr 1
  apply List.map_congr_left
  intro k _
  simp only [Function.comp]
  rw [show i + 1 - 1 - (k + 1) = i - 1 - k by omega]

theorem wayP_get {bs : List (List Int)} {n z i : Nat} (hi : i ≤ n) : (wayP bs n z (i + 1)).getD (n - i) 0 = (stAt bs n z i : Int) := by
  rw [← wayP_set hi, List.getD_eq_getElem?_getD, List.getElem?_set_self (by rw [wayP_len (by omega)]; omega)]
  rfl

theorem implWay {row : List Nat} {bs : List (List Int)} {n z : Nat} (h : Backs a n bs) (hz : z < a) (hn : n ≤ 12) :
    rounds (impl_BestHidden_B1 (row, bs)) ((n : Int) - 1, wayP bs n z 1) = some (wayP bs n z (n + 1)) := by
  have r := rounds_forS (f := impl_BestHidden_B1 (row, bs)) (fun i (s : List Int) => ((n : Int) - 1 - (i : Int), s))
    (fun i s => s.set (n - (i + 1)) (stAt bs n z (i + 1) : Int)) id (n := n) (fun i s => s = wayP bs n z (i + 1))
    (fun i s hi hs0 => ⟨by
      subst hs0
      have e1 : decide ((n : Int) - 1 - (i : Int) ≥ 0) = true := decide_eq_true (by omega)
      have e2 : ((n : Int) - 1 - (i : Int)).toNat = n - 1 - i := by omega
      have e3 : wsub .i64 ((n : Int) - 1 - (i : Int)) 1 = (n : Int) - 1 - ((i + 1 : Nat) : Int) := by rw [wsubI (by omega)]; omega
      have e4 : wadd .i64 ((n : Int) - 1 - (i : Int)) 1 = ((n - i : Nat) : Int) := by rw [waddI (by omega)]; omega
      obtain ⟨l1, l2⟩ := h.2 (n - 1 - i) (by omega)
      have hlt := stAt_lt h hz i (by omega)
      have hl := wayP_len (bs := bs) (n := n) (z := z) (i := i + 1) (by omega)
      have j1 : (0 : Int) ≤ (n : Int) - 1 - (i : Int) ∧ (n : Int) - 1 - (i : Int) < lenI bs := by simp only [lenI]; rw [h.1]; omega
      have j2 : (0 : Int) ≤ ((n - i : Nat) : Int) ∧ ((n - i : Nat) : Int) < lenI (wayP bs n z (i + 1)) := by simp only [lenI]; rw [hl]; omega
      have j3 : (0 : Int) ≤ (stAt bs n z i : Int) ∧ (stAt bs n z i : Int) < lenI (bs.getD (n - 1 - i) []) := by simp only [lenI]; rw [l1]; omega
      have j4 : (0 : Int) ≤ (n : Int) - 1 - (i : Int) ∧ (n : Int) - 1 - (i : Int) < lenI (wayP bs n z (i + 1)) := by simp only [lenI]; rw [hl]; omega
      unfold impl_BestHidden_B1
      simp only [e1, cond_true, e2, e3, e4, Int.toNat_natCast, wayP_get (show i ≤ n by omega)]
      rw [guard_pos j1, guard_pos j2, guard_pos j3, guard_pos j4, stAt_step h hz hi, show n - (i + 1) = n - 1 - i by omega], by subst hs0; exact wayP_set (by omega)⟩)
    (fun s _ => by
      have e1 : decide ((n : Int) - 1 - (n : Int) ≥ 0) = false := decide_eq_false (by omega)
      unfold impl_BestHidden_B1
      simp only [e1, cond_false]
      rfl) n 0 (wayP bs n z 1) (by omega) rfl
  simp only [Int.natCast_zero, Int.sub_zero] at r
  rw [r.1, id, r.2]

end

end Go.Proofs


/-
  Lists of finite numbers; lists one after another; ForwardOf, NextLetters.
-/
namespace Go.Proofs
open Go.Ide Go.IntWalk

theorem rounds_find {τ ρ : Type} {f : τ → Option (τ ⊕ ρ)} (mk : Nat → τ) (p : Nat → Bool) (a : ρ) (b : Nat → ρ) {n : Nat}
    (hstep : ∀ i, i < n → f (mk i) = some (bif p i then .inl (mk (i + 1)) else .inr (b i))) (hend : f (mk n) = some (.inr a)) : ∀ (k i : Nat), i + k = n → ∃ j, rounds f (mk i) = some (bif allN p k i then a else b j)
  | 0, i, hi => by
    have : i = n := by omega
    subst this
    rw [rounds_eq, hend]
    exact ⟨0, rfl⟩
  | k + 1, i, hi => by
    rw [rounds_eq, hstep i (by omega)]
    simp only [allN]
    cases p i with
    | true => simp only [cond_true, Bool.true_and]; exact rounds_find mk p a b hstep hend k (i + 1) (by omega)
    | false => exact ⟨i, rfl⟩

def fin (x : Nat) : Bool := feq .f32 (fop .sub .f32 x x) 0

def fins (xs : List Nat) : Bool := allN (fun i => fin (xs.getD i 0)) xs.length 0

theorem fin_bd {x K : Nat} (h : bd x K) (h2 : 2 ≤ K) (h3 : K ≤ 254) : fin x = true := by
  unfold fin
  rw [sub_self32 h h2 h3]
  rfl

theorem implFins {xs : List Nat} (h : xs.length ≤ 4294967296) : impl_areFinite xs = some (fins xs) := by
  obtain ⟨j, this⟩ := rounds_find (f := slices_IndexFunc___float32_float32_fn1_impl_areFinite_1_B1 xs) (fun i => ((i : Nat) : Int)) (fun i => fin (xs.getD i 0)) (Sum.inl ()) (fun i => Sum.inr ((i : Nat) : Int)) (n := xs.length) (fun i hi => by
    unfold slices_IndexFunc___float32_float32_fn1_impl_areFinite_1_B1 impl_areFinite_1 impl_IsFinite
    simp only [ltN hi, cond_true, guard_pos (idxN hi), Int.toNat_natCast, Option.bind_some, nextN hi h]
    show _ = some (bif feq .f32 (fop .sub .f32 (xs.getD i 0) (xs.getD i 0)) 0 then _ else _)
    cases feq .f32 (fop .sub .f32 (xs.getD i 0) (xs.getD i 0)) 0 <;> rfl) (by
    unfold slices_IndexFunc___float32_float32_fn1_impl_areFinite_1_B1
    simp only [geN (Nat.le_refl _), cond_false]) xs.length 0 (by omega)
  simp only [Int.natCast_zero] at this
  unfold impl_areFinite slices_ContainsFunc___float32_float32_fn1_impl_areFinite_1 slices_IndexFunc___float32_float32_fn1_impl_areFinite_1 fins
  rw [this]
  cases allN (fun i => fin (xs.getD i 0)) xs.length 0 with
  | true => rfl
  | false =>
    simp only [cond_false, Option.bind_some, ge_iff_le]
    rw [decide_eq_true (Int.natCast_nonneg j)]
    rfl

theorem implFinsL {xs : List Nat} (h : xs.length ≤ 4294967296) : impl_finiteList_mv0 xs = some (bif fins xs then (xs, true) else ([], false)) := by
  unfold impl_finiteList_mv0
  rw [implFins h]
  cases fins xs <;> rfl

theorem rowsF_len {a b : Nat} {fs ss hs : List Nat} {w : List Int} : (rowsF a b fs ss hs w).length = w.length + 1 := by simp [rowsF]
end Go.Proofs


/-
  Chances backward; BackwardOf.
-/
namespace Go.Proofs
open Go.Ide Go.IntWalk

def cellB (a b : Nat) (ss hs row : List Nat) (c i : Nat) : Nat → Nat
  | 0 => 0
  | p + 1 => fop .add .f32 (cellB a b ss hs row c i p) (fop .mul .f32 (fop .mul .f32 (hs.getD (i * b + c) 0) (ss.getD (i * a + p) 0)) (row.getD p 0))

def prevB (a b : Nat) (ss hs row : List Nat) (c : Nat) : List Nat := (List.range a).map fun i => cellB a b ss hs row c i a

theorem prevB_len (a b : Nat) (ss hs row : List Nat) (c : Nat) : (prevB a b ss hs row c).length = a := by simp [prevB]

theorem prevB_get {a b : Nat} {ss hs row : List Nat} {c i : Nat} (hi : i < a) : (prevB a b ss hs row c).getD i 0 = cellB a b ss hs row c i a := by
  unfold prevB
  simp [List.getD_eq_getElem?_getD, hi]

def rowE (a b : Nat) (ss hs : List Nat) (w : List Int) : Nat → List Nat
  | 0 => List.replicate a 1065353216
  | k + 1 => prevB a b ss hs (rowE a b ss hs w k) (w.getD (w.length - (k + 1)) 0).toNat

theorem rowE_len {a b : Nat} {ss hs : List Nat} (w : List Int) : ∀ k, (rowE a b ss hs w k).length = a
  | 0 => by simp [rowE]
  | k + 1 => prevB_len ..

def rowsB (a b : Nat) (ss hs : List Nat) (w : List Int) : List (List Nat) := (List.range (w.length + 1)).map fun i => rowE a b ss hs w (w.length - i)

theorem rowsB_len {a b : Nat} {ss hs : List Nat} {w : List Int} : (rowsB a b ss hs w).length = w.length + 1 := by simp [rowsB]
theorem rowsB_get {a b : Nat} {ss hs : List Nat} {w : List Int} {i : Nat} (h : i < w.length + 1) : (rowsB a b ss hs w).getD i [] = rowE a b ss hs w (w.length - i) := by
  unfold rowsB
  simp [List.getD_eq_getElem?_getD, h]

theorem getD_set_ne {α : Type} {xs : List α} {i j : Nat} {x d : α} (h : i ≠ j) : (xs.set i x).getD j d = xs.getD j d := by
  simp [List.getD_eq_getElem?_getD, List.getElem?_set_ne h]

theorem getD_set_at {α : Type} {xs : List α} {i : Nat} {x d : α} (h : i < xs.length) : (xs.set i x).getD i d = x := by
  simp [List.getD_eq_getElem?_getD, h]

structure RowsTo (a b : Nat) (ss hs : List Nat) (w : List Int) (k : Nat) (out : List (List Nat)) : Prop where
  len : out.length = w.length + 1
  done : ∀ j, w.length - k ≤ j → j ≤ w.length → out.getD j [] = rowE a b ss hs w (w.length - j)
  todo : ∀ j, j < w.length - k → out.getD j [] = []

theorem RowsTo.all {a b : Nat} {ss hs : List Nat} {w : List Int} {out : List (List Nat)} (h : RowsTo a b ss hs w w.length out) : out = rowsB a b ss hs w := by
  refine List.ext_getElem (by rw [h.len, rowsB_len]) fun i h1 h2 => ?_
  have e1 : out[i] = out.getD i [] := by simp [List.getD_eq_getElem?_getD, h1]
  have e2 : (rowsB a b ss hs w)[i] = (rowsB a b ss hs w).getD i [] := by simp [List.getD_eq_getElem?_getD, h2]
  have hi := h.len
  rw [e1, e2, h.done i (by omega) (by omega), rowsB_get (by omega)]

theorem RowsTo.step {a b : Nat} {ss hs : List Nat} {w : List Int} {k : Nat} {out : List (List Nat)} (h : RowsTo a b ss hs w k out) (hk : k < w.length) : RowsTo a b ss hs w (k + 1) (out.set (w.length - (k + 1)) (rowE a b ss hs w (k + 1))) := by
  have hl := h.len
  refine ⟨by simp [hl], fun j h1 h2 => ?_, fun j hj => ?_⟩
  · by_cases e : w.length - (k + 1) = j
    · subst e
      rw [getD_set_at (by omega), show w.length - (w.length - (k + 1)) = k + 1 by omega]
    · rw [getD_set_ne e]; exact h.done j (by omega) h2
  · rw [getD_set_ne (by omega)]; exact h.todo j (by omega)

theorem wsubN {n k : Nat} (hk : k < n) (hn : n ≤ 4294967296) : wsub .i64 ((n - (k + 1) : Nat) : Int) 1 = (n : Int) - 1 - ((k + 1 : Nat) : Int) := by
  rw [wsubI (by omega)]; omega

theorem repeatOnes : ∀ a : Nat, a ≤ 5 → slices_Repeat___float32_float32 [1065353216] (a : Int) = some (List.replicate a 1065353216)
  | 0, _ => by
    have e : slices_Repeat___float32_float32 [1065353216] ((0 : Nat) : Int) = (rounds slices_Repeat___float32_float32_B1 ((0 : Int), ([] : List Nat))).bind fun r => some r := by kernel_rfl
    rw [e, rounds_iff.2 ⟨2, show Go.Ide.runN slices_Repeat___float32_float32_B1 2 ((0 : Int), ([] : List Nat)) = some [] by kernel_rfl⟩]; rfl
  | 1, _ => by
    have e : slices_Repeat___float32_float32 [1065353216] ((1 : Nat) : Int) = (rounds slices_Repeat___float32_float32_B1 ((1 : Int), [1065353216])).bind fun r => some r := by kernel_rfl
    rw [e, rounds_iff.2 ⟨2, show Go.Ide.runN slices_Repeat___float32_float32_B1 2 ((1 : Int), [1065353216]) = some [1065353216] by kernel_rfl⟩]; rfl
  | 2, _ => by
    have e : slices_Repeat___float32_float32 [1065353216] ((2 : Nat) : Int) = (rounds slices_Repeat___float32_float32_B1 ((1 : Int), [1065353216, 0])).bind fun r => some r := by kernel_rfl
    rw [e, rounds_iff.2 ⟨3, show Go.Ide.runN slices_Repeat___float32_float32_B1 3 ((1 : Int), [1065353216, 0]) = some [1065353216, 1065353216] by kernel_rfl⟩]; rfl
  | 3, _ => by
    have e : slices_Repeat___float32_float32 [1065353216] ((3 : Nat) : Int) = (rounds slices_Repeat___float32_float32_B1 ((1 : Int), [1065353216, 0, 0])).bind fun r => some r := by kernel_rfl
    rw [e, rounds_iff.2 ⟨4, show Go.Ide.runN slices_Repeat___float32_float32_B1 4 ((1 : Int), [1065353216, 0, 0]) = some [1065353216, 1065353216, 1065353216] by kernel_rfl⟩]; rfl
  | 4, _ => by
    have e : slices_Repeat___float32_float32 [1065353216] ((4 : Nat) : Int) = (rounds slices_Repeat___float32_float32_B1 ((1 : Int), [1065353216, 0, 0, 0])).bind fun r => some r := by kernel_rfl
    rw [e, rounds_iff.2 ⟨4, show Go.Ide.runN slices_Repeat___float32_float32_B1 4 ((1 : Int), [1065353216, 0, 0, 0]) = some [1065353216, 1065353216, 1065353216, 1065353216] by kernel_rfl⟩]; rfl
  | 5, _ => by
    have e : slices_Repeat___float32_float32 [1065353216] ((5 : Nat) : Int) = (rounds slices_Repeat___float32_float32_B1 ((1 : Int), [1065353216, 0, 0, 0, 0])).bind fun r => some r := by kernel_rfl
    rw [e, rounds_iff.2 ⟨5, show Go.Ide.runN slices_Repeat___float32_float32_B1 5 ((1 : Int), [1065353216, 0, 0, 0, 0]) = some [1065353216, 1065353216, 1065353216, 1065353216, 1065353216] by kernel_rfl⟩]; rfl
  | _ + 6, h => by omega

theorem implBack {a b : Nat} {fs ss hs : List Nat} (m : Model a b fs ss hs) {w : List Int} (hw : Letters b w) (hl : w.length ≤ 12) : impl_Model_backward ((a : Int), (b : Int), fs, ss, hs) w = some (rowsB a b ss hs w) := by
  have hn2 := m.n2
  have hk2 := m.k2
  have hls := m.ls
  have hlh := m.lh
  have h3 := rounds_forS (f := impl_Model_backward_B3 ((a : Int), (b : Int), fs, ss, hs) w) (fun k out => ((w.length : Int) - 1 - ((k : Nat) : Int), out)) (fun k out => out.set (w.length - (k + 1)) (rowE a b ss hs w (k + 1))) id (n := w.length) (RowsTo a b ss hs w)
    (fun k out hk ho => ⟨by
      have hat : ((w.length : Int) - 1 - ((k : Nat) : Int)) = ((w.length - (k + 1) : Nat) : Int) := by omega
      rw [hat]
      obtain ⟨c, hc, hc2⟩ := hw (w.length - (k + 1)) (by omega)
      have hlo := ho.len
      have hnx : out.getD (w.length - k) [] = rowE a b ss hs w k := by
        rw [ho.done _ (Nat.le_refl _) (by omega), show w.length - (w.length - k) = k by omega]
      have hrl := rowE_len (a := a) (b := b) (ss := ss) (hs := hs) w k
      have hnl := prevB_len a b ss hs (rowE a b ss hs w k) c
      have h2 := loop_to0 (f := impl_Model_backward_B2 ((a : Int), (b : Int), fs, ss, hs) w (((w.length - (k + 1) : Nat) : Int), out)) (prevB a b ss hs (rowE a b ss hs w k) c)
        (fun i o hi hol h0 => by
          rw [hnl] at hi hol
          have h1 := rounds_forS (f := impl_Model_backward_B1 ((a : Int), (b : Int), fs, ss, hs) w (((w.length - (k + 1) : Nat) : Int), out) (((i : Nat) : Int), o)) (fun p s => (((p : Nat) : Int), s))
            (fun p s => s.set i (fop .add .f32 (s.getD i 0) (fop .mul .f32 (fop .mul .f32 (hs.getD (i * b + c) 0) (ss.getD (i * a + p) 0)) ((rowE a b ss hs w k).getD p 0)))) id (n := a) (fun p s => s = o.set i (cellB a b ss hs (rowE a b ss hs w k) c i p))
            (fun p s hp hs' => ⟨by
              obtain ⟨e1, e2⟩ := cellM (a := a) (b := b) (by omega) (by omega) hi hc2
              obtain ⟨e3, e4⟩ := cellM (a := a) (b := a) (by omega) (by omega) hi hp
              have e5 : wadd .i64 (((w.length - (k + 1) : Nat) : Int)) 1 = ((w.length - k : Nat) : Int) := by rw [waddI (by omega)]; omega
              have hsl : s.length = a := by rw [hs']; simp [hol]
              have j0 := idxN (i := i) (n := s.length) (by omega)
              have j5 := idxN (i := w.length - (k + 1)) (n := w.length) (by omega)
              have j1 := idxN (i := i * b + c) (n := hs.length) (by omega)
              have j2 := idxN (i := i * a + p) (n := ss.length) (by omega)
              have j3 := idxN (i := w.length - k) (n := out.length) (by omega)
              have j4 := idxN (i := p) (n := (rowE a b ss hs w k).length) (by omega)
              unfold impl_Model_backward_B1 impl_Model_show impl_Model_step
              simp only [lenI, ltN hp, cond_true, Int.toNat_natCast, nextN hp (show a ≤ 4294967296 by omega), hc, e1, e3, e5, hnx]
              rw [guard_pos j0, guard_pos j5, guard_pos j1, Option.bind_some, guard_pos j2, Option.bind_some, guard_pos j3, guard_pos j4], by
              rw [hs']
              rw [getD_set_at (by omega), List.set_set]
              rfl⟩)
            (fun s _ => by
              unfold impl_Model_backward_B1
              simp only [geN (Nat.le_refl _), cond_false]; rfl) a 0 o (by omega) (by
              show o = o.set i 0
              apply List.ext_getElem (by simp)
              intro j h1 h2
              rw [List.getElem_set]
              split
              · rename_i e
                subst e
                simpa [List.getD_eq_getElem?_getD, List.getElem?_eq_getElem h1] using h0
              · rfl)
          simp only [Int.natCast_zero] at h1
          unfold impl_Model_backward_B2
          simp only [ltN hi, cond_true, h1.1, id, Option.bind_some, nextN hi (show a ≤ 4294967296 by omega)]
          rw [h1.2, prevB_get hi])
        (fun o _ => by
          unfold impl_Model_backward_B2
          rw [hnl]
          simp only [geN (Nat.le_refl _), cond_false])
      rw [hnl] at h2
      have j6 := idxN (i := w.length - (k + 1)) (n := out.length) (by omega)
      unfold impl_Model_backward_B3
      rw [show decide (((w.length - (k + 1) : Nat) : Int) ≥ 0) = true from decide_eq_true (Int.natCast_nonneg _)]
      simp only [cond_true, Int.toNat_natCast, lenI]
      rw [guard_pos ⟨by omega, by omega⟩, h2]
      simp only [Option.bind_some]
      rw [guard_pos j6, wsubN hk (show w.length ≤ 4294967296 by omega), rowE, hc, Int.toNat_natCast], ho.step hk⟩)
    (fun out _ => by
      unfold impl_Model_backward_B3
      rw [show decide ((w.length : Int) - 1 - ((w.length : Nat) : Int) ≥ 0) = false from decide_eq_false (by omega)]
      rfl) w.length 0 ((List.replicate (w.length + 1) ([] : List Nat)).set w.length (List.replicate a 1065353216)) (by omega) ⟨by simp, fun j q1 q2 => by
        have : j = w.length := by omega
        subst this
        rw [getD_set_at (by simp), Nat.sub_self, rowE], fun j hj => by
        rw [getD_set_ne (by omega), List.getD_eq_getElem?_getD, List.getElem?_replicate]
        split <;> rfl⟩
  simp only [Int.natCast_zero, Int.sub_zero] at h3
  unfold impl_Model_backward
  simp only [lenI, List.length_replicate]
  have e1 : wadd .i64 (w.length : Int) 1 = ((w.length + 1 : Nat) : Int) := by rw [waddI (by omega)]; omega
  have e2 : wsub .i64 (w.length : Int) 1 = (w.length : Int) - 1 := by rw [wsubI (by omega)]
  rw [e1, e2, guard_pos ⟨by omega, by omega⟩, repeatOnes a hn2]
  simp only [Option.bind_some, Int.toNat_natCast]
  rw [guard_pos ⟨by omega, by omega⟩, h3.1]
  simp only [id, Option.bind_some]
  rw [RowsTo.all h3.2]

end Go.Proofs


/-
  Shares of a list; HiddenAt, PairAt.
-/
namespace Go.Proofs
open Go.Ide Go.IntWalk

def quoF (xs : List Nat) (all : Nat) : List Nat := (List.range xs.length).map fun i => fop .quo .f32 (xs.getD i 0) all

theorem quoF_len (xs : List Nat) (all : Nat) : (quoF xs all).length = xs.length := by simp [quoF]

def shF (xs : List Nat) : List Nat × Bool :=
  bif fgt .f32 (sumF xs xs.length) 0 then (bif fins (quoF xs (sumF xs xs.length)) then (quoF xs (sumF xs xs.length), true) else ([], false)) else ([], false)

theorem implShares {xs : List Nat} (h : xs.length ≤ 1000000) : impl_shares_mv0 xs = some (shF xs) := by
  let all := sumF xs xs.length
  have h1 := rounds_forS (f := impl_shares_mv0_B1 xs all) (fun i out => (((i : Nat) : Int), out)) (fun i out => out.set i (fop .quo .f32 (out.getD i 0) all)) id (n := xs.length)
    (fun i out => out = (List.range i).map (fun i => fop .quo .f32 (xs.getD i 0) all) ++ xs.drop i)
    (fun i out hi ho => by
      have hol : out.length = xs.length := by rw [ho]; simp; omega
      have hg : out.getD i 0 = xs.getD i 0 := by
        rw [ho, List.getD_eq_getElem?_getD, List.getElem?_append_right (by simp)]
        simp [List.getD_eq_getElem?_getD]
      refine ⟨?_, ?_⟩
      · have j1 := idxN (i := i) (n := out.length) (by omega)
        unfold impl_shares_mv0_B1
        simp only [lenI, ltN hi, cond_true, Int.toNat_natCast, nextN hi (show xs.length ≤ 4294967296 by omega)]
        rw [guard_pos j1]
      · rw [hg, ho, drop_cons hi 0, set_at (by simp), List.range_succ, List.map_append]
        simp)
    (fun out _ => by
      unfold impl_shares_mv0_B1
      simp only [lenI, geN (Nat.le_refl _), cond_false]; rfl) xs.length 0 xs (by omega) (by simp)
  simp only [Int.natCast_zero] at h1
  unfold impl_shares_mv0 shF
  rw [implSum (by omega)]
  simp only [Option.bind_some]
  cases fgt .f32 (sumF xs xs.length) 0 with
  | false => rfl
  | true =>
    simp only [Bool.not_true, cond_false, cond_true]
    have h2 := h1.2
    rw [List.drop_length, List.append_nil] at h2
    rw [show rounds (impl_shares_mv0_B1 xs (sumF xs xs.length)) (0, xs) = some (quoF xs (sumF xs xs.length)) from by rw [h1.1]; simp only [id]; rw [h2]; rfl]
    have hl := quoF_len xs (sumF xs xs.length)
    simp only [Option.bind_some]
    rw [implFinsL (by omega)]
    cases fins (quoF xs (sumF xs xs.length)) <;> rfl

theorem rowsF_i {w : List Int} {a b : Nat} {fs ss hs : List Nat} {k : Nat} (h : k ≤ w.length) : (0 : Int) ≤ (k : Int) ∧ (k : Int) < lenI (rowsF a b fs ss hs w) := by
  simp only [lenI, rowsF_len]; omega
theorem rowsB_i {w : List Int} {a b : Nat} {ss hs : List Nat} {k : Nat} (h : k ≤ w.length) : (0 : Int) ≤ (k : Int) ∧ (k : Int) < lenI (rowsB a b ss hs w) := by
  simp only [lenI, rowsB_len]; omega

def hidF (a : Nat) (f g : List Nat) : List Nat := (List.range a).map fun i => fop .mul .f32 (f.getD i 0) (g.getD i 0)

theorem implHid {a b : Nat} {fs ss hs : List Nat} (hn : a ≤ 5) {f g : List Nat} (hf : f.length = a) (hg : g.length = a) : impl_Model_hiddenAt ((a : Int), (b : Int), fs, ss, hs) f g = some (shF (hidF a f g)) := by
  have h1 := loop_app (f := impl_Model_hiddenAt_B1 f g) (fun i => fop .mul .f32 (f.getD i 0) (g.getD i 0)) f.length [] (fun i out hi ho => by
    have j := idxN (i := i) (n := g.length) (by omega)
    unfold impl_Model_hiddenAt_B1
    simp only [lenI, ltN hi, cond_true, Int.toNat_natCast, nextN hi (show f.length ≤ 4294967296 by omega)]
    rw [guard_pos (idxN hi), guard_pos j, guard_pos (by simp only [ho, List.length_nil, List.length_singleton, appMax]; omega)]) (fun out => by
    unfold impl_Model_hiddenAt_B1
    simp only [lenI, geN (Nat.le_refl _), cond_false])
  rw [List.nil_append] at h1
  unfold impl_Model_hiddenAt
  rw [h1, hf]
  simp only [Option.bind_some]
  rw [show (List.range a).map (fun i => fop .mul .f32 (f.getD i 0) (g.getD i 0)) = hidF a f g from rfl, implShares (by simp [hidF]; omega)]
  rfl

def pairG (a b : Nat) (ss hs f g : List Nat) (c i k : Nat) : Nat := fop .mul .f32 (fop .mul .f32 (fop .mul .f32 (f.getD i 0) (hs.getD (i * b + c) 0)) (ss.getD (i * a + k) 0)) (g.getD k 0)

def pairF (a b : Nat) (ss hs f g : List Nat) (c : Nat) : Nat → List Nat
  | 0 => []
  | i + 1 => pairF a b ss hs f g c i ++ (List.range a).map (pairG a b ss hs f g c i)

theorem pairF_len (a b : Nat) (ss hs f g : List Nat) (c : Nat) : ∀ i, (pairF a b ss hs f g c i).length = i * a
  | 0 => by simp [pairF]
  | i + 1 => by simp [pairF, pairF_len a b ss hs f g c i, Nat.succ_mul]

theorem implPair {a b : Nat} {fs ss hs : List Nat} (m : Model a b fs ss hs) {f g : List Nat} {c : Nat} (hf : f.length = a) (hg : g.length = a) (hc : c < b) : impl_Model_pairAt ((a : Int), (b : Int), fs, ss, hs) f g (c : Int) = some (shF (pairF a b ss hs f g c a)) := by
  have hn2 := m.n2
  have hk2 := m.k2
  have hls := m.ls
  have hlh := m.lh
  have h2 := rounds_forS (f := impl_Model_pairAt_B2 ((a : Int), (b : Int), fs, ss, hs) f g (c : Int)) (fun i out => (((i : Nat) : Int), out)) (fun i out => out ++ (List.range a).map (pairG a b ss hs f g c i)) id (n := a) (fun i out => out = pairF a b ss hs f g c i)
    (fun i out hi ho => by
      have hol : out.length = i * a := by rw [ho, pairF_len]
      have hia : i * a ≤ 25 := Nat.le_trans (Nat.mul_le_mul (show i ≤ 5 by omega) hn2) (by omega)
      obtain ⟨e1, e2⟩ := cellM (a := a) (b := b) (by omega) (by omega) hi hc
      have h1 := loop_app (f := impl_Model_pairAt_B1 ((a : Int), (b : Int), fs, ss, hs) f g (c : Int) ((i : Int), out)) (pairG a b ss hs f g c i) a out (fun k o hk hoo => by
        obtain ⟨e3, e4⟩ := cellM (a := a) (b := a) (by omega) (by omega) hi hk
        have j0 := idxN (i := i) (n := f.length) (by omega)
        have j1 := idxN (i := i * b + c) (n := hs.length) (by omega)
        have j2 := idxN (i := i * a + k) (n := ss.length) (by omega)
        have j3 := idxN (i := k) (n := g.length) (by omega)
        unfold impl_Model_pairAt_B1 impl_Model_show impl_Model_step
        simp only [lenI, ltN hk, cond_true, Int.toNat_natCast, nextN hk (show a ≤ 4294967296 by omega), e1, e3]
        rw [guard_pos j0, guard_pos j1, Option.bind_some, guard_pos j2, Option.bind_some, guard_pos j3, guard_pos (by simp only [hoo, List.length_singleton, appMax]; omega)]
        rfl) (fun o => by
        unfold impl_Model_pairAt_B1
        simp only [geN (Nat.le_refl _), cond_false])
      refine ⟨?_, by rw [ho]; rfl⟩
      unfold impl_Model_pairAt_B2
      simp only [ltN hi, cond_true, h1, Option.bind_some, nextN hi (show a ≤ 4294967296 by omega)])
    (fun out _ => by
      unfold impl_Model_pairAt_B2
      simp only [geN (Nat.le_refl _), cond_false]; rfl) a 0 [] (by omega) rfl
  simp only [Int.natCast_zero] at h2
  have hpl := pairF_len a b ss hs f g c a
  have haa : a * a ≤ 25 := Nat.mul_le_mul hn2 hn2
  unfold impl_Model_pairAt
  rw [h2.1]
  simp only [id, Option.bind_some]
  rw [h2.2, implShares (by omega)]
  rfl

end Go.Proofs


/-
  The source from which the laws draw.
-/
namespace Go.Proofs
open Go.Ide Go.IntWalk

abbrev SrcD := List Int × Int × Int

def BytesI (c : List Int) : Prop := c.length ≤ 1048576 ∧ ∀ i, i < c.length → 0 ≤ c.getD i 0 ∧ c.getD i 0 ≤ 255

theorem bytesI_wf {x : List Int} (w : WfD (.sl (.int .u8)) x) (h : x.length ≤ 1048576) : BytesI x := by
  refine ⟨h, fun i hi => ?_⟩
  have := w.2 i hi
  have h2 : (Lit.int .u8 (x[i] : Int)).wf = true := this
  rw [List.getD_eq_getElem?_getD, List.getElem?_eq_getElem hi]
  simp only [Lit.wf, Bool.and_eq_true, decide_eq_true_eq] at h2
  have e1 : IntKind.u8.min = 0 := by decide
  have e2 : IntKind.u8.max = 255 := by decide
  rw [e1, e2] at h2
  simp only [Option.getD_some]
  omega

structure SrcOK (n : Nat) (s : SrcD) : Prop where
  code : BytesI s.1
  at0 : 0 ≤ s.2.1
  at1 : s.2.1 + (n : Int) ≤ 1000000000000000000

theorem SrcOK.mono {n m : Nat} {s : SrcD} (h : SrcOK n s) (hm : m ≤ n) : SrcOK m s := ⟨h.code, h.at0, by have := h.at1; omega⟩

theorem SrcOK.from {c : List Int} (h : BytesI c) : spec_l00From c = some (c, (0 : Int), (0 : Int)) ∧ SrcOK 1000000000000000000 (c, (0 : Int), (0 : Int)) := ⟨rfl, h, Int.le_refl _, by simp⟩

theorem byte64 (x : Int) (h : 0 ≤ x ∧ x ≤ 255) : IntKind.wrap .i64 x = x := i64_in _ (by omega)

theorem low255 (z : Int) : ∃ y : Int, IntKind.wrap .i64 (IntKind.wrap .u64 (((BitVec.ofInt (IntKind.bits .u64) z &&& BitVec.ofInt (IntKind.bits .u64) (255 : Int)).toNat : Nat) : Int)) = y ∧ 0 ≤ y ∧ y ≤ 255 := by
  have h1 : (BitVec.ofInt (IntKind.bits .u64) z &&& BitVec.ofInt (IntKind.bits .u64) (255 : Int)).toNat ≤ 255 := by
    rw [BitVec.toNat_and]
    refine Nat.le_trans Nat.and_le_right ?_
    decide
  generalize (BitVec.ofInt (IntKind.bits .u64) z &&& BitVec.ofInt (IntKind.bits .u64) (255 : Int)).toNat = q at h1
  have h2 : IntKind.wrap .u64 ((q : Nat) : Int) = (q : Int) := by
    unfold IntKind.wrap
    simp only [IntKind.bits, IntKind.signed, Bool.false_and, Bool.false_eq_true, if_false]
    omega
  rw [h2, i64_in _ (by omega)]
  exact ⟨_, rfl, by omega, by omega⟩

theorem next_ok {n : Nat} {s : SrcD} (h : SrcOK (n + 1) s) : ∃ x s', spec_l00Src_next s = some (x, s') ∧ 0 ≤ x ∧ x ≤ 255 ∧ SrcOK n s' := by
  obtain ⟨c, a, z⟩ := s
  obtain ⟨hc, h0, h1⟩ := h
  have h0 : 0 ≤ a := h0
  have h1 : a + ((n + 1 : Nat) : Int) ≤ 1000000000000000000 := h1
  have e1 : wadd .i64 a 1 = a + 1 := waddI (by omega)
  unfold spec_l00Src_next
  simp only [e1]
  have hs : ∀ z', SrcOK n (c, a + 1, z') := fun z' => ⟨hc, by show 0 ≤ a + 1; omega, by show a + 1 + (n : Int) ≤ _; omega⟩
  have key : ∀ v : Int, 0 ≤ v ∧ v ≤ 255 → ∃ x s', (bif decide (a + 1 ≤ lenI c) then some (v, c, a + 1, wadd .u64 (wadd .u64 (wmul .u64 z 6364136223846793005) (IntKind.wrap .u64 v)) 1442695040888963407)
      else (some (IntKind.wrap .i64 (IntKind.wrap .u64 (((BitVec.ofInt (IntKind.bits .u64) (Int.fdiv (wadd .u64 (wadd .u64 (wmul .u64 z 6364136223846793005) (IntKind.wrap .u64 v)) 1442695040888963407) (2 ^ (min (Int.toNat (40 : Int)) (IntKind.bits .u64)))) &&& BitVec.ofInt (IntKind.bits .u64) (255 : Int)).toNat : Nat) : Int)))).bind fun q5 =>
        some (q5, c, a + 1, wadd .u64 (wadd .u64 (wmul .u64 z 6364136223846793005) (IntKind.wrap .u64 v)) 1442695040888963407)) = some (x, s') ∧ 0 ≤ x ∧ x ≤ 255 ∧ SrcOK n s' := by
    intro v hv
    cases decide (a + 1 ≤ lenI c) with
    | true => exact ⟨_, _, rfl, hv.1, hv.2, hs _⟩
    | false =>
      obtain ⟨y, e, y1, y2⟩ := low255 (Int.fdiv (wadd .u64 (wadd .u64 (wmul .u64 z 6364136223846793005) (IntKind.wrap .u64 v)) 1442695040888963407) (2 ^ (min (Int.toNat (40 : Int)) (IntKind.bits .u64))))
      rw [e]
      exact ⟨_, _, rfl, y1, y2, hs _⟩
  by_cases hlt : a < lenI c
  · have hi : a.toNat < c.length := by simp only [lenI] at hlt; omega
    have hb := hc.2 a.toNat hi
    simp only [hlt, decide_true, cond_true]
    rw [guard_pos ⟨h0, trivial⟩, byte64 _ hb]
    exact key _ hb
  · simp only [hlt, decide_false, cond_false]
    exact key 0 (by omega)

theorem tmod_in {x n : Int} (hx : 0 ≤ x) (hn : 0 < n) : 0 ≤ Int.tmod x n ∧ Int.tmod x n < n := by
  rw [Int.tmod_eq_emod_of_nonneg hx]
  exact ⟨Int.emod_nonneg _ (by omega), Int.emod_lt_of_pos _ hn⟩

theorem pick_ok {n : Nat} {s : SrcD} (h : SrcOK (n + 2) s) (k : Int) : ∃ x s', spec_l00Src_pick s k = some (x, s') ∧ 0 ≤ x ∧ (x < k ∨ x = 0) ∧ SrcOK n s' := by
  unfold spec_l00Src_pick
  by_cases h1 : k ≤ 1
  · simp only [h1, decide_true, cond_true]
    exact ⟨_, _, rfl, Int.le_refl _, .inr rfl, h.mono (by omega)⟩
  · simp only [h1, decide_false, cond_false]
    obtain ⟨x, s1, e1, x1, x2, o1⟩ := next_ok h
    simp only [e1, Option.bind_some]
    by_cases h2 : k > 200
    · obtain ⟨y, s2, e2, y1, y2, o2⟩ := next_ok o1
      have e3 : wmul .i64 x 256 = x * 256 := wmulI (by omega)
      have e4 : wadd .i64 (x * 256) y = x * 256 + y := waddI (by omega)
      simp only [h2, decide_true, cond_true, e2, Option.bind_some, e3, e4]
      rw [guard_pos (by omega)]
      have := tmod_in (x := x * 256 + y) (n := k) (by omega) (by omega)
      exact ⟨_, _, rfl, this.1, .inl this.2, o2⟩
    · simp only [h2, decide_false, cond_false, Option.bind_some]
      rw [guard_pos (by omega)]
      have := tmod_in (x := x) (n := k) (by omega) (by omega)
      exact ⟨_, _, rfl, this.1, .inl this.2, o1.mono (by omega)⟩

theorem b10At_ok {c : List Int} (hc : BytesI c) {i n : Int} (hi : 0 ≤ i ∧ i ≤ 1000000000000) : ∃ x, laws_b10At c i n = some x ∧ 0 ≤ x ∧ (x < n ∨ x = 0) := by
  unfold laws_b10At
  by_cases h1 : n ≤ 1
  · simp only [h1, decide_true, cond_true]
    exact ⟨_, rfl, Int.le_refl _, .inr rfl⟩
  · simp only [h1, decide_false, cond_false]
    by_cases hlt : i < lenI c
    · have hj : i.toNat < c.length := by simp only [lenI] at hlt; omega
      have hb := hc.2 i.toNat hj
      simp only [hlt, decide_true, cond_true]
      rw [guard_pos ⟨hi.1, trivial⟩, guard_pos (by omega), byte64 _ hb]
      have := tmod_in (x := c.getD i.toNat 0) (n := n) hb.1 (by omega)
      exact ⟨_, rfl, this.1, .inl this.2⟩
    · simp only [hlt, decide_false, cond_false]
      rw [guard_pos (by omega), wmulI (by omega), waddI (by omega)]
      have := tmod_in (x := i * 37 + 11) (n := n) (by omega) (by omega)
      exact ⟨_, rfl, this.1, .inl this.2⟩

end Go.Proofs


/-
  A plain machine is drawn.
-/
namespace Go.Proofs
open Go.Ide Go.IntWalk

theorem getD_app {α : Type} {xs ys : List α} {i : Nat} {d : α} : (xs ++ ys).getD i d = if i < xs.length then xs.getD i d else ys.getD (i - xs.length) d := by
  split
  · rename_i h; rw [List.getD_eq_getElem?_getD, List.getElem?_append_left h, List.getD_eq_getElem?_getD]
  · rename_i h; rw [List.getD_eq_getElem?_getD, List.getElem?_append_right (by omega), List.getD_eq_getElem?_getD]

theorem drawWord {c k : Nat} {code : List Int} (c1 : 1 ≤ c) (hk : k ≤ 100) (hb : BytesI code) : ∃ w, spec_B10Word code (c : Int) (k : Int) = some w ∧ w.length = k ∧ Letters c w := by
  obtain ⟨ef, of⟩ := SrcOK.from hb
  obtain ⟨r, er, r1, r2⟩ := rounds_inv (f := spec_l07DrawWord_B1 (c : Int)) (fun a st => ∃ (s : SrcD) (out : List Int), st = ((a : Int), s, out) ∧ a + out.length = k ∧ SrcOK (a * 2) s ∧ Letters c out)
    (fun r => r.2.length = k ∧ Letters c r.2) (by
      rintro a st ⟨s, out, rfl, ha, hs, ho⟩
      unfold spec_l07DrawWord_B1
      by_cases h0 : a = 0
      · subst h0
        have hd : decide (((0 : Nat) : Int) > (0 : Int)) = false := by simp
        simp only [hd, cond_false]
        exact .inr ⟨_, rfl, by show out.length = _; omega, ho⟩
      · have hd : decide ((a : Int) > (0 : Int)) = true := by simp; omega
        obtain ⟨x, s', e, x1, x2, o⟩ := pick_ok (n := (a - 1) * 2) (hs.mono (by omega)) (c : Int)
        have e1 : wsub .i64 (a : Int) 1 = ((a - 1 : Nat) : Int) := by rw [wsubI (by omega)]; omega
        simp only [hd, cond_true, e, Option.bind_some, e1]
        rw [guard_pos (by simp only [List.length_cons, List.length_nil, appMax]; omega)]
        refine .inl ⟨a - 1, _, by omega, rfl, s', out ++ [x], rfl, by simp; omega, o, fun i hi => ?_⟩
        rw [getD_app]
        split
        · rename_i hi2; exact ho i hi2
        · have : i - out.length = 0 := by simp at hi; omega
          rw [this]
          exact ⟨x.toNat, by show x = _; omega, by omega⟩) k ((k : Int), (code, (0 : Int), (0 : Int)), ([] : List Int)) ⟨_, [], rfl, by simp, of.mono (by omega), fun i hi => by simp at hi⟩
  refine ⟨r.2, ?_, r1, r2⟩
  unfold spec_B10Word spec_l07DrawWord
  simp only [ef, er, Option.bind_some]

end Go.Proofs


/-
  Numbers that are the same, nearly: after k roundings.
-/
namespace Go.Proofs

def Near (k a b : Nat) : Prop := a * 8388608 ^ k ≤ b * 8388609 ^ k ∧ b * 8388608 ^ k ≤ a * 8388609 ^ k

theorem DU (k : Nat) : 8388608 ^ k ≤ 8388609 ^ k := Nat.pow_le_pow_left (by omega) k

theorem Near.refl (k a : Nat) : Near k a a := ⟨Nat.mul_le_mul_left _ (DU k), Nat.mul_le_mul_left _ (DU k)⟩
theorem Near.symm {k a b : Nat} (h : Near k a b) : Near k b a := ⟨h.2, h.1⟩
theorem Near.of_eq {k a b : Nat} (h : a = b) : Near k a b := h ▸ Near.refl k a

theorem near_mul1 {k l a b c d : Nat} (h : a * 8388608 ^ k ≤ b * 8388609 ^ k) (h' : c * 8388608 ^ l ≤ d * 8388609 ^ l) : a * c * 8388608 ^ (k + l) ≤ b * d * 8388609 ^ (k + l) := by
  rw [Nat.pow_add, Nat.pow_add]
  calc a * c * (8388608 ^ k * 8388608 ^ l) = a * 8388608 ^ k * (c * 8388608 ^ l) := by ac_rfl
    _ ≤ b * 8388609 ^ k * (d * 8388609 ^ l) := Nat.mul_le_mul h h'
    _ = b * d * (8388609 ^ k * 8388609 ^ l) := by ac_rfl

theorem Near.mul {k l a b c d : Nat} (h : Near k a b) (h' : Near l c d) : Near (k + l) (a * c) (b * d) := ⟨near_mul1 h.1 h'.1, near_mul1 h.2 h'.2⟩

theorem near_tr1 {k l a b c : Nat} (h : a * 8388608 ^ k ≤ b * 8388609 ^ k) (h' : b * 8388608 ^ l ≤ c * 8388609 ^ l) : a * 8388608 ^ (k + l) ≤ c * 8388609 ^ (k + l) := by
  rw [Nat.pow_add, Nat.pow_add]
  calc a * (8388608 ^ k * 8388608 ^ l) = a * 8388608 ^ k * 8388608 ^ l := by ac_rfl
    _ ≤ b * 8388609 ^ k * 8388608 ^ l := Nat.mul_le_mul_right _ h
    _ = b * 8388608 ^ l * 8388609 ^ k := by ac_rfl
    _ ≤ c * 8388609 ^ l * 8388609 ^ k := Nat.mul_le_mul_right _ h'
    _ = c * (8388609 ^ k * 8388609 ^ l) := by ac_rfl

theorem Near.trans {k l a b c : Nat} (h : Near k a b) (h' : Near l b c) : Near (k + l) a c := ⟨near_tr1 h.1 h'.1, by have := near_tr1 h'.2 h.2; rwa [Nat.add_comm l k] at this⟩

theorem Near.mono {k l a b : Nat} (h : Near k a b) (hl : k ≤ l) : Near l a b := by
  have := h.trans (Near.refl (l - k) b)
  rwa [show k + (l - k) = l by omega] at this

theorem Near.add {k a b c d : Nat} (h : Near k a b) (h' : Near k c d) : Near k (a + c) (b + d) := ⟨by rw [Nat.add_mul, Nat.add_mul]; exact Nat.add_le_add h.1 h'.1, by rw [Nat.add_mul, Nat.add_mul]; exact Nat.add_le_add h.2 h'.2⟩

theorem Near.mulr {k a b : Nat} (h : Near k a b) (c : Nat) : Near k (a * c) (b * c) := h.mul (Near.refl 0 c)
theorem Near.mull {k a b : Nat} (h : Near k a b) (c : Nat) : Near k (c * a) (c * b) := by rw [Nat.mul_comm c, Nat.mul_comm c]; exact h.mulr c

theorem Near.cancel {k a b c : Nat} (h : Near k (a * c) (b * c)) (hc : 0 < c) : Near k a b := by
  obtain ⟨h1, h2⟩ := h
  refine ⟨Nat.le_of_mul_le_mul_right (c := c) ?_ hc, Nat.le_of_mul_le_mul_right (c := c) ?_ hc⟩
  · calc a * 8388608 ^ k * c = a * c * 8388608 ^ k := by ac_rfl
      _ ≤ b * c * 8388609 ^ k := h1
      _ = b * 8388609 ^ k * c := by ac_rfl
  · calc b * 8388608 ^ k * c = b * c * 8388608 ^ k := by ac_rfl
      _ ≤ a * c * 8388609 ^ k := h2
      _ = a * 8388609 ^ k * c := by ac_rfl

theorem near_fin : 8388609 ^ 200 * 10000 ≤ 8388608 ^ 200 * 10001 := by decide

theorem Near.le {k a b : Nat} (h : Near k a b) (hk : k ≤ 200) : a * 10000 ≤ b * 10001 := by
  have h1 := (h.mono hk).1
  have hp : 0 < 8388608 ^ 200 := Nat.pow_pos (by omega)
  refine Nat.le_of_mul_le_mul_right (c := 8388608 ^ 200) ?_ hp
  calc a * 10000 * 8388608 ^ 200 = a * 8388608 ^ 200 * 10000 := by ac_rfl
    _ ≤ b * 8388609 ^ 200 * 10000 := Nat.mul_le_mul_right _ h1
    _ = b * (8388609 ^ 200 * 10000) := by ac_rfl
    _ ≤ b * (8388608 ^ 200 * 10001) := Nat.mul_le_mul_left _ near_fin
    _ = b * 10001 * 8388608 ^ 200 := by ac_rfl

def sumN (f : Nat → Nat) : Nat → Nat
  | 0 => 0
  | n + 1 => sumN f n + f n

theorem near_sum {k : Nat} {f g : Nat → Nat} : ∀ n, (∀ i, i < n → Near k (f i) (g i)) → Near k (sumN f n) (sumN g n)
  | 0, _ => Near.refl _ _
  | n + 1, h => (near_sum n fun i hi => h i (by omega)).add (h n (by omega))

theorem sumN_mul (f : Nat → Nat) (c : Nat) : ∀ n, sumN f n * c = sumN (fun i => f i * c) n
  | 0 => by simp [sumN]
  | n + 1 => by rw [sumN, Nat.add_mul, sumN_mul f c n]; rfl

theorem sumN_le {f : Nat → Nat} {c : Nat} : ∀ n, (∀ i, i < n → f i ≤ c) → sumN f n ≤ n * c
  | 0, _ => by simp [sumN]
  | n + 1, h => by
    have := sumN_le n fun i hi => h i (by omega)
    have := h n (by omega)
    rw [sumN, Nat.succ_mul]; omega

theorem sumN_add (f : Nat → Nat) (n : Nat) : ∀ m, sumN f (n + m) = sumN f n + sumN (fun i => f (n + i)) m
  | 0 => by simp [sumN]
  | m + 1 => by rw [← Nat.add_assoc, sumN, sumN_add f n m, sumN]; omega

theorem sumN_rows (f : Nat → Nat) (w : Nat) : ∀ n, sumN f (n * w) = sumN (fun i => sumN (fun j => f (i * w + j)) w) n
  | 0 => by simp [sumN]
  | n + 1 => by rw [Nat.succ_mul, sumN_add, sumN_rows f w n, sumN]

end Go.Proofs


/-
  Floats of 32 bits above nought: what is computed is nearly what it stands for.
-/
namespace Go.Proofs
open Go.Ide

theorem cut_near (n d : Nat) : 2 * (Ieee.Toward.cut .even false n d * 2 ^ d) ≤ 2 * n + 2 ^ d ∧ 2 * n ≤ 2 * (Ieee.Toward.cut .even false n d * 2 ^ d) + 2 ^ d := by
  rw [cut_full]
  have hp := pow_pos2 d
  generalize 2 ^ d = g at *
  have h1 := Nat.div_add_mod n g
  have h2 := Nat.mod_lt n hp
  generalize n / g = q at *
  generalize n % g = r at *
  have e : (q + (decide (g < 2 * r) || g == 2 * r && q % 2 == 1).toNat) * g = g * q + (decide (g < 2 * r) || g == 2 * r && q % 2 == 1).toNat * g := by rw [Nat.add_mul, Nat.mul_comm q g]
  rw [e]
  by_cases c1 : g < 2 * r
  · rw [decide_eq_true c1]
    simp only [Bool.true_or, Bool.toNat_true, Nat.one_mul]
    omega
  · rw [decide_eq_false c1, Bool.false_or]
    by_cases c2 : g = 2 * r
    · cases (g == 2 * r && q % 2 == 1) <;> simp only [Bool.toNat_true, Bool.toNat_false, Nat.one_mul, Nat.zero_mul] <;> omega
    · have : (g == 2 * r) = false := beq_eq_false_iff_ne.2 c2
      rw [this]
      simp only [Bool.false_and, Bool.toNat_false, Nat.zero_mul]
      omega

theorem V_code {t k : Nat} (h1 : 8388608 ≤ k) (h2 : k ≤ 16777216) (h3 : t * 8388608 + k < 2147483648) : V32 (t * 8388608 + k) = k * 2 ^ t := by
  unfold V32
  rw [Nat.mod_eq_of_lt h3, if_neg (by omega)]
  by_cases e : k = 16777216
  · subst e
    rw [show (t * 8388608 + 16777216) % 8388608 = 0 by omega, show (t * 8388608 + 16777216) / 8388608 - 1 = t + 1 by omega, Nat.pow_succ]
    omega
  · rw [show (t * 8388608 + k) % 8388608 = k - 8388608 by omega, show (t * 8388608 + k) / 8388608 - 1 = t by omega, show 8388608 + (k - 8388608) = k by omega]

theorem near_half {k g u : Nat} (hk : 8388608 ≤ k) (h : 2 * (k * g) ≤ 2 * u + g ∧ 2 * u ≤ 2 * (k * g) + g) : Near 1 (k * g) u := by
  unfold Near
  rw [Nat.pow_one, Nat.pow_one]
  have hg : 8388608 * g ≤ k * g := Nat.mul_le_mul_right _ hk
  generalize k * g = K at *
  omega

theorem min_less {a b : Nat} (h : min a b < b) : min a b = a ∧ a < b := by
  rcases Nat.le_total a b with h1 | h1
  · rw [Nat.min_eq_left h1] at h ⊢
    exact ⟨rfl, h⟩
  · rw [Nat.min_eq_right h1] at h
    exact absurd h (Nat.lt_irrefl _)

theorem near_core {k d t s u : Nat} (h1 : 8388608 ≤ k) (h2 : k ≤ 16777216) (hc : 2 * (k * 2 ^ d) ≤ 2 * u + 2 ^ d ∧ 2 * u ≤ 2 * (k * 2 ^ d) + 2 ^ d) (hf : min (t * 8388608 + k) 2139095040 < 2139095040) (hd : t + s = d) : Near 1 (V32 (min (t * 8388608 + k) 2139095040) * 2 ^ s) u := by
  obtain ⟨hm, hlt⟩ := min_less hf
  rw [hm, V_code h1 h2 (Nat.lt_trans hlt (by decide)), Nat.mul_assoc, ← Nat.pow_add, hd]
  exact near_half h1 hc

theorem RN_near {u s : Nat} (h : 2 ^ (23 + s) ≤ u) (hf : RN u (-149 - (s : Int)) < 2139095040) : Near 1 (V32 (RN u (-149 - (s : Int))) * 2 ^ s) u := by
  have h0 : u ≠ 0 := by have := pow_pos2 (23 + s); omega
  have hl : 23 + s ≤ u.log2 := (Nat.le_log2 h0).2 h
  have hk := kept_ge (neg := false) (mag := u) (f := 23) (p := -149 - (s : Int)) (last := -149 - (s : Int) + (u.log2 : Int) - ((23 : Nat) : Int)) h0 rfl
  have hk2 := kept_le (neg := false) (mag := u) (f := 23) (p := -149 - (s : Int)) (last := -149 - (s : Int) + (u.log2 : Int) - ((23 : Nat) : Int)) (by omega)
  have e24 : (2 : Nat) ^ (23 + 1) = 16777216 := by decide
  have e23 : (2 : Nat) ^ 23 = 8388608 := by decide
  rw [e23] at hk
  rw [e24] at hk2
  have hfr : Ieee.single.fractionBits = 23 := rfl
  have hlast : max (-149 - (s : Int) + (u.log2 : Int) - ((23 : Nat) : Int)) (-149) = -149 - (s : Int) + (u.log2 : Int) - ((23 : Nat) : Int) := by omega
  have e1 : (-149 - (s : Int) - (-149 - (s : Int) + (u.log2 : Int) - ((23 : Nat) : Int))).toNat = 0 := by omega
  have e2 : (-149 - (s : Int) + (u.log2 : Int) - ((23 : Nat) : Int) - (-149 - (s : Int))).toNat = u.log2 - 23 := by omega
  have e3 : (-149 - (s : Int) + (u.log2 : Int) - ((23 : Nat) : Int) - -149).toNat = u.log2 - 23 - s := by omega
  rw [e1, e2, Nat.shiftLeft_zero] at hk hk2
  have hR : RN u (-149 - (s : Int)) = min ((u.log2 - 23 - s) * 8388608 + Ieee.Toward.cut .even false u (u.log2 - 23)) 2139095040 := by
    unfold RN Ieee.Format.nearest
    rw [if_neg h0]
    have hw : ∀ r, Ieee.single.word false r = r := fun r => rfl
    simp only [lp32, bi32, ir32, hfr]
    rw [hw, hlast, e1, e2, e3, Nat.shiftLeft_zero]
  rw [hR] at hf ⊢
  exact near_core hk hk2 (cut_near u (u.log2 - 23)) hf (by omega)

def pw (m : Nat) : Nat := (m - 22) * 8388608

theorem V_pw {m : Nat} (h1 : 23 ≤ m) (h2 : m ≤ 276) : V32 (pw m) = 2 ^ m := by
  unfold V32 pw
  rw [Nat.mod_eq_of_lt (by omega), if_neg (by omega), show (m - 22) * 8388608 % 8388608 = 0 by omega, show (m - 22) * 8388608 / 8388608 - 1 = m - 23 by omega, Nat.add_zero, show (8388608 : Nat) = 2 ^ 23 from rfl, ← Nat.pow_add, show 23 + (m - 23) = m by omega]

theorem RN_pw {m s : Nat} (h1 : 23 ≤ m) (h2 : m ≤ 276) : RN (2 ^ (m + s)) (-149 - (s : Int)) = pw m := by
  rw [Nat.pow_add, RN_scale, ← V_pw h1 h2]
  have hb : bd (pw m) (m - 22) := by unfold bd pw; omega
  by_cases e : m = 23
  · subst e; decide
  · rw [RN_V hb (by omega) (by omega)]
    exact Nat.mod_eq_of_lt (by unfold pw; omega)

structure Rg (a b x : Nat) : Prop where
  fin : x ≤ 2130706432
  lo : 2 ^ a ≤ V32 x
  hi : V32 x ≤ 2 ^ b

theorem Rg.bd {a b x : Nat} (h : Rg a b x) : bd x 254 := by have := h.fin; unfold Go.Ide.bd; omega
theorem Rg.mono {a b c d x : Nat} (h : Rg a b x) (h1 : c ≤ a) (h2 : b ≤ d) : Rg c d x := ⟨h.fin, Nat.le_trans (Nat.pow_le_pow_right (by omega) h1) h.lo, Nat.le_trans h.hi (Nat.pow_le_pow_right (by omega) h2)⟩

theorem RN_ge {u m s : Nat} (h1 : 23 ≤ m) (h2 : m ≤ 276) (h : 2 ^ (m + s) ≤ u) : pw m ≤ RN u (-149 - (s : Int)) := by
  rw [← RN_pw (s := s) h1 h2]; exact RN_mono h
theorem RN_le {u m s : Nat} (h1 : 23 ≤ m) (h2 : m ≤ 276) (h : u ≤ 2 ^ (m + s)) : RN u (-149 - (s : Int)) ≤ pw m := by
  rw [← RN_pw (s := s) h1 h2]; exact RN_mono h

theorem RN_rg {u a b s : Nat} (h1 : 23 ≤ a) (h2 : a ≤ 276) (h3 : 23 ≤ b) (h4 : b ≤ 275) (hl : 2 ^ (a + s) ≤ u) (hh : u ≤ 2 ^ (b + s)) : Rg a b (RN u (-149 - (s : Int))) ∧ Near 1 (V32 (RN u (-149 - (s : Int))) * 2 ^ s) u := by
  have q1 := RN_ge h1 h2 hl
  have q2 := RN_le h3 (by omega) hh
  have q3 : pw b ≤ 2130706432 := by unfold pw; omega
  refine ⟨⟨by omega, ?_, ?_⟩, RN_near (Nat.le_trans (Nat.pow_le_pow_right (by omega) (by omega)) hl) (by omega)⟩
  · rw [← V_pw h1 h2]; exact V_mono (by omega) (by omega) q1
  · rw [← V_pw h3 (by omega)]; exact V_mono (by omega) (by omega) q2

theorem read_pos {x : Nat} (h : x ≤ 2130706432) : ∃ m i, Ieee.single.read x = .number false m (-149 + ((i : Nat) : Int)) ∧ V32 x = m * 2 ^ i := by
  have hb : bd x 254 := by unfold bd; omega
  obtain ⟨m, i, e, v⟩ := read_V hb (by omega) (by omega)
  have : (x / 2147483648 % 2 == 1) = false := by rw [Nat.div_eq_of_lt (by omega)]; rfl
  rw [this] at e
  exact ⟨m, i, e, v⟩

theorem mul_val {x y : Nat} (hx : x ≤ 2130706432) (hy : y ≤ 2130706432) : fop .mul .f32 x y = RN (V32 x * V32 y) (-149 - ((149 : Nat) : Int)) := by
  obtain ⟨m, i, e1, v1⟩ := read_pos hx
  obtain ⟨n, j, e2, v2⟩ := read_pos hy
  have e3 : floatBits .mul .f32 x y = some (RN (m * n) (-298 + ((i + j : Nat) : Int))) := by
    show Ieee.single.mul x y = _
    unfold Ieee.Format.mul
    rw [e1, e2]
    show some (Ieee.single.nearest _ (m * n) (-149 + (i : Int) + (-149 + (j : Int)))) = _
    rw [show -149 + (i : Int) + (-149 + (j : Int)) = -298 + ((i + j : Nat) : Int) by omega]
    rfl
  unfold fop
  rw [e3]
  simp only
  rw [canon_RN, v1, v2]
  have := RN_scale (m * n) (i + j) (-298 + ((i + j : Nat) : Int))
  rw [show -298 + ((i + j : Nat) : Int) - ((i + j : Nat) : Int) = -149 - ((149 : Nat) : Int) by omega] at this
  rw [← this]
  congr 1
  rw [Nat.pow_add]; ac_rfl

theorem mul_rg {a b c d x y : Nat} (hx : Rg a b x) (hy : Rg c d y) (h1 : 172 ≤ a + c) (h2 : b + d ≤ 424) (h3 : a + c ≤ 425) (h4 : 172 ≤ b + d) : Rg (a + c - 149) (b + d - 149) (fop .mul .f32 x y) ∧ Near 1 (V32 (fop .mul .f32 x y) * 2 ^ 149) (V32 x * V32 y) := by
  rw [mul_val hx.fin hy.fin]
  refine RN_rg (by omega) (by omega) (by omega) (by omega) ?_ ?_
  · rw [show a + c - 149 + 149 = a + c by omega, Nat.pow_add]; exact Nat.mul_le_mul hx.lo hy.lo
  · rw [show b + d - 149 + 149 = b + d by omega, Nat.pow_add]; exact Nat.mul_le_mul hx.hi hy.hi

theorem add_val {x y : Nat} (hx : x ≤ 2130706432) (hy : y ≤ 2130706432) : fop .add .f32 x y = RN (V32 x + V32 y) (-149) := by
  refine add_nn (a := 254) (by unfold bd; omega) (by unfold bd; omega) (by omega) (by omega) (by unfold pos32; omega) (by unfold nn; omega)

theorem add_rg {b x y : Nat} (hx : x ≤ 2130706432) (hy : y ≤ 2130706432) (hb : 23 ≤ b) (hb2 : b ≤ 274) (h1 : V32 x ≤ 2 ^ b) (h2 : V32 y ≤ 2 ^ b) :
    fop .add .f32 x y ≤ 2130706432 ∧ V32 (fop .add .f32 x y) ≤ 2 ^ (b + 1) ∧ Near 1 (V32 (fop .add .f32 x y)) (V32 x + V32 y) ∧ x ≤ fop .add .f32 x y ∧ y ≤ fop .add .f32 x y := by
  rw [add_val hx hy]
  have e0 : (-149 : Int) = -149 - ((0 : Nat) : Int) := by omega
  have hle : RN (V32 x + V32 y) (-149) ≤ pw (b + 1) := by
    rw [e0]
    exact RN_le (by omega) (by omega) (by rw [Nat.add_zero, Nat.pow_succ]; omega)
  have hpw : pw (b + 1) ≤ 2130706432 := by unfold pw; omega
  have hx2 : x = RN (V32 x) (-149) := by rw [RN_V (K := 254) (by unfold bd; omega) (by omega) (by omega), Nat.mod_eq_of_lt (by omega)]
  have hy2 : y = RN (V32 y) (-149) := by rw [RN_V (K := 254) (by unfold bd; omega) (by omega) (by omega), Nat.mod_eq_of_lt (by omega)]
  refine ⟨by omega, ?_, ?_, ?_, ?_⟩
  · rw [← V_pw (m := b + 1) (by omega) (by omega)]; exact V_mono (by omega) (by omega) hle
  · by_cases hs : 2 ^ (23 + 0) ≤ V32 x + V32 y
    · have := RN_near (s := 0) hs (by rw [← e0]; omega)
      rw [← e0, Nat.pow_zero, Nat.mul_one] at this
      exact this
    · have hs : V32 x + V32 y < 8388608 := by
        have : (2 : Nat) ^ (23 + 0) = 8388608 := by decide
        omega
      have hv : V32 (V32 x + V32 y) = V32 x + V32 y := by
        have : V32 (V32 x + V32 y) = if (V32 x + V32 y) % 2147483648 < 8388608 then (V32 x + V32 y) % 2147483648 else (8388608 + (V32 x + V32 y) % 2147483648 % 8388608) * 2 ^ ((V32 x + V32 y) % 2147483648 / 8388608 - 1) := rfl
        rw [this, Nat.mod_eq_of_lt (by omega), if_pos hs]
      have := RN_V (x := V32 x + V32 y) (K := 2) (by unfold bd; omega) (by omega) (by omega)
      rw [hv, Nat.mod_eq_of_lt (by omega)] at this
      rw [this, hv]
      exact Near.refl _ _
  · conv => lhs; rw [hx2]
    exact RN_mono (by omega)
  · conv => lhs; rw [hy2]
    exact RN_mono (by omega)

theorem near_quo {m n M : Nat} (hn : 0 < n) (hM : 8388608 * n ≤ m * M) : Near 1 ((2 * (m * M / n) + (m * M % n != 0).toNat) * n) (2 * (m * M)) := by
  have h1 := Nat.div_add_mod (m * M) n
  have h2 := Nat.mod_lt (m * M) hn
  generalize m * M = z at *
  have hb : (z % n = 0 ∧ (z % n != 0).toNat = 0) ∨ (0 < z % n ∧ (z % n != 0).toNat = 1) := by
    by_cases e : z % n = 0
    · exact .inl ⟨e, by rw [e]; rfl⟩
    · refine .inr ⟨by omega, ?_⟩
      have : (z % n != 0) = true := by simpa using e
      rw [this]; rfl
  unfold Near
  rw [Nat.pow_one, Nat.pow_one, Nat.add_mul, Nat.mul_assoc 2 (z / n) n, Nat.mul_comm (z / n) n]
  generalize n * (z / n) = q at *
  rcases hb with ⟨e, e2⟩ | ⟨e, e2⟩ <;> rw [e2]
  · omega
  · rw [Nat.one_mul]; omega

theorem quo_rg {a b c d x y : Nat} (hx : Rg a b x) (hy : Rg c d y) (h1 : d ≤ a + 125) (h2 : b ≤ c + 125) (h3 : c ≤ b + 120) :
    fop .quo .f32 x y ≤ 2130706432 ∧ Near 2 (V32 (fop .quo .f32 x y) * V32 y) (V32 x * 2 ^ 149) := by
  obtain ⟨m, i, e1, v1⟩ := read_pos hx.fin
  obtain ⟨n, j, e2, v2⟩ := read_pos hy.fin
  have xl := hx.lo
  have xh := hx.hi
  have yl := hy.lo
  have yh := hy.hi
  rw [v1] at xl xh
  rw [v2] at yl yh
  have hn : n ≠ 0 := by
    rintro rfl
    have := pow_pos2 c
    omega
  have hm : m ≠ 0 := by
    rintro rfl
    have := pow_pos2 a
    omega
  have hf : Ieee.single.fractionBits = 23 := rfl
  have e3 : floatBits .quo .f32 x y = some (RN (2 * (m * 2 ^ (23 + 2 + n.log2 - m.log2) / n) + (m * 2 ^ (23 + 2 + n.log2 - m.log2) % n != 0).toNat) (-149 + (i : Int) - (-149 + (j : Int)) - ((23 + 2 + n.log2 - m.log2 : Nat) : Int) - 1)) := by
    show Ieee.single.div x y = _
    unfold Ieee.Format.div
    rw [e1, e2]
    unfold Ieee.Datum.quotient
    simp only [hf, Nat.shiftLeft_eq]
    rw [if_neg hn]
    rfl
  unfold fop
  rw [e3]
  simp only
  rw [canon_RN]
  have hlm : m < 2 ^ (m.log2 + 1) := Nat.lt_log2_self
  have hlm2 := Nat.log2_self_le hm
  have hln := Nat.log2_self_le hn
  have hln2 : n < 2 ^ (n.log2 + 1) := Nat.lt_log2_self
  have hmlog : m.log2 ≤ 23 := by
    have := read_small e1
    have := (Nat.log2_lt (k := 24) hm).2 (by omega); omega
  have hbig : 8388608 * n ≤ m * 2 ^ (23 + 2 + n.log2 - m.log2) := by
    have q1 : 2 ^ m.log2 * 2 ^ (23 + 2 + n.log2 - m.log2) ≤ m * 2 ^ (23 + 2 + n.log2 - m.log2) := Nat.mul_le_mul_right _ hlm2
    rw [← Nat.pow_add, show m.log2 + (23 + 2 + n.log2 - m.log2) = 24 + (n.log2 + 1) by omega, Nat.pow_add] at q1
    have e24 : (2 : Nat) ^ 24 = 16777216 := by decide
    rw [e24] at q1
    omega
  generalize 23 + 2 + n.log2 - m.log2 = more at *
  have hnear := near_quo (Nat.pos_of_ne_zero hn) hbig
  have hQlo : m * 2 ^ more ≤ (2 * (m * 2 ^ more / n) + (m * 2 ^ more % n != 0).toNat) * n ∧ (2 * (m * 2 ^ more / n) + (m * 2 ^ more % n != 0).toNat) * n ≤ 4 * (m * 2 ^ more) := by
    have := hnear
    unfold Near at this
    rw [Nat.pow_one, Nat.pow_one] at this
    generalize (2 * (m * 2 ^ more / n) + (m * 2 ^ more % n != 0).toNat) * n = A at *
    generalize m * 2 ^ more = B at *
    omega
  generalize 2 * (m * 2 ^ more / n) + (m * 2 ^ more % n != 0).toNat = Q at *
  have hsc : RN Q (-149 + (i : Int) - (-149 + (j : Int)) - (more : Int) - 1) = RN (Q * 2 ^ (149 + i)) (-149 - ((j + more + 1 : Nat) : Int)) := by
    rw [← RN_scale Q (149 + i)]
    congr 1
    omega
  rw [hsc]
  -- bounds
  have lo1 : 2 ^ (a + 149 + more + j) ≤ Q * 2 ^ (149 + i) * 2 ^ d := by
    calc 2 ^ (a + 149 + more + j) = 2 ^ a * (2 ^ 149 * 2 ^ more * 2 ^ j) := by rw [Nat.pow_add, Nat.pow_add, Nat.pow_add]; ac_rfl
      _ ≤ m * 2 ^ i * (2 ^ 149 * 2 ^ more * 2 ^ j) := Nat.mul_le_mul_right _ xl
      _ = m * 2 ^ more * (2 ^ i * 2 ^ 149 * 2 ^ j) := by ac_rfl
      _ ≤ Q * n * (2 ^ i * 2 ^ 149 * 2 ^ j) := Nat.mul_le_mul_right _ hQlo.1
      _ = Q * (2 ^ 149 * 2 ^ i) * (n * 2 ^ j) := by ac_rfl
      _ ≤ Q * (2 ^ 149 * 2 ^ i) * 2 ^ d := Nat.mul_le_mul_left _ yh
      _ = Q * 2 ^ (149 + i) * 2 ^ d := by rw [Nat.pow_add]
  have lo2 : 2 ^ (23 + (j + more + 1)) ≤ Q * 2 ^ (149 + i) := by
    refine Nat.le_of_mul_le_mul_right (c := 2 ^ d) ?_ (pow_pos2 d)
    refine Nat.le_trans ?_ lo1
    rw [← Nat.pow_add]
    exact Nat.pow_le_pow_right (by omega) (by omega)
  have hi1 : Q * 2 ^ (149 + i) * 2 ^ c ≤ 2 ^ (b + 151 + more + j) := by
    calc Q * 2 ^ (149 + i) * 2 ^ c ≤ Q * 2 ^ (149 + i) * (n * 2 ^ j) := Nat.mul_le_mul_left _ yl
      _ = Q * n * (2 ^ 149 * 2 ^ i * 2 ^ j) := by rw [Nat.pow_add]; ac_rfl
      _ ≤ 4 * (m * 2 ^ more) * (2 ^ 149 * 2 ^ i * 2 ^ j) := Nat.mul_le_mul_right _ hQlo.2
      _ = m * 2 ^ i * (2 ^ 2 * 2 ^ 149 * 2 ^ more * 2 ^ j) := by rw [show (4 : Nat) = 2 ^ 2 from rfl]; ac_rfl
      _ ≤ 2 ^ b * (2 ^ 2 * 2 ^ 149 * 2 ^ more * 2 ^ j) := Nat.mul_le_mul_right _ xh
      _ = 2 ^ (b + 151 + more + j) := by rw [← Nat.pow_add, ← Nat.pow_add, ← Nat.pow_add, ← Nat.pow_add]; congr 1; omega
  have hi2 : Q * 2 ^ (149 + i) ≤ 2 ^ (b + 150 - c + (j + more + 1)) := by
    refine Nat.le_of_mul_le_mul_right (c := 2 ^ c) ?_ (pow_pos2 c)
    refine Nat.le_trans hi1 ?_
    rw [← Nat.pow_add]
    exact Nat.pow_le_pow_right (by omega) (by omega)
  have hle := RN_le (m := b + 150 - c) (s := j + more + 1) (by omega) (by omega) hi2
  have hpw : pw (b + 150 - c) ≤ 2130706432 := by unfold pw; omega
  refine ⟨by omega, ?_⟩
  have n1 := RN_near lo2 (by omega)
  generalize V32 (RN (Q * 2 ^ (149 + i)) (-149 - ((j + more + 1 : Nat) : Int))) = v at n1 ⊢
  -- together
  have n2 := (n1.mulr n).trans (by
    have := hnear.mulr (2 ^ (149 + i))
    rwa [Nat.mul_right_comm Q n (2 ^ (149 + i))] at this)
  refine Near.cancel (c := 2 ^ (more + 1)) ?_ (pow_pos2 _)
  rw [v1, v2]
  have ea : v * 2 ^ (j + more + 1) * n = v * (n * 2 ^ j) * 2 ^ (more + 1) := by
    rw [show j + more + 1 = j + (more + 1) by omega, Nat.pow_add]
    generalize 2 ^ (more + 1) = A
    generalize 2 ^ j = B
    ac_rfl
  have eb : 2 * (m * 2 ^ more) * 2 ^ (149 + i) = m * 2 ^ i * 2 ^ 149 * 2 ^ (more + 1) := by
    rw [Nat.pow_add, Nat.pow_succ 2 more]
    generalize 2 ^ more = A
    generalize 2 ^ i = B
    generalize 2 ^ 149 = C
    ac_rfl
  rw [ea, eb] at n2
  exact n2

end Go.Proofs


/-
  Floats above nought: their order; a model that is drawn is a model.
-/
namespace Go.Proofs
open Go.Ide Go.IntWalk

theorem scaled_min {m n i j : Nat} : (m * 2 ^ (-149 + (i : Int) - min (-149 + (i : Int)) (-149 + (j : Int))).toNat ≤ n * 2 ^ (-149 + (j : Int) - min (-149 + (i : Int)) (-149 + (j : Int))).toNat) ↔ m * 2 ^ i ≤ n * 2 ^ j := by
  rw [show (-149 + (i : Int) - min (-149 + (i : Int)) (-149 + (j : Int))).toNat = i - min i j by omega, show (-149 + (j : Int) - min (-149 + (i : Int)) (-149 + (j : Int))).toNat = j - min i j by omega]
  exact scaled_le

theorem order_V {x y : Nat} (hx : x ≤ 2130706432) (hy : y ≤ 2130706432) : Ieee.single.order x y = some (compare ((V32 x : Nat) : Int) ((V32 y : Nat) : Int)) := by
  obtain ⟨m, i, e1, v1⟩ := read_pos hx
  obtain ⟨n, j, e2, v2⟩ := read_pos hy
  have : Ieee.single.order x y = some (compare (Ieee.signed false m (-149 + (i : Int) - min (-149 + (i : Int)) (-149 + (j : Int))).toNat) (Ieee.signed false n (-149 + (j : Int) - min (-149 + (i : Int)) (-149 + (j : Int))).toNat)) := by
    show Ieee.Datum.order (Ieee.single.read x) (Ieee.single.read y) = _
    rw [e1, e2]; rfl
  rw [this, signed_false, signed_false]
  have h1 := scaled_min (m := m) (n := n) (i := i) (j := j)
  have h2 := scaled_min (m := n) (n := m) (i := j) (j := i)
  rw [Int.min_comm] at h2
  rw [← v1, ← v2] at h1 h2
  generalize m * 2 ^ (-149 + (i : Int) - min (-149 + (i : Int)) (-149 + (j : Int))).toNat = A at *
  generalize n * 2 ^ (-149 + (j : Int) - min (-149 + (i : Int)) (-149 + (j : Int))).toNat = B at *
  have hlt : A < B ↔ V32 x < V32 y := by rw [← Nat.not_le, ← Nat.not_le]; exact not_congr h2
  have heq : A = B ↔ V32 x = V32 y := ⟨fun h => Nat.le_antisymm (h1.1 (Nat.le_of_eq h)) (h2.1 (Nat.le_of_eq h.symm)), fun h => Nat.le_antisymm (h1.2 (Nat.le_of_eq h)) (h2.2 (Nat.le_of_eq h.symm))⟩
  simp only [compare, compareOfLessAndEq, Int.ofNat_lt, Int.ofNat_inj, hlt, heq]

theorem fle_V {x y : Nat} (hx : x ≤ 2130706432) (hy : y ≤ 2130706432) : fle .f32 x y = decide (V32 x ≤ V32 y) := by
  show (Ieee.single.order x y == some .lt || Ieee.single.order x y == some .eq) = _
  rw [order_V hx hy, cmp_le, decide_eq_decide]; omega
theorem fge_V {x y : Nat} (hx : x ≤ 2130706432) (hy : y ≤ 2130706432) : fge .f32 x y = decide (V32 y ≤ V32 x) := by
  show (Ieee.single.order x y == some .gt || Ieee.single.order x y == some .eq) = _
  rw [order_V hx hy, cmp_ge, decide_eq_decide]; omega
theorem fgt_V {x y : Nat} (hx : x ≤ 2130706432) (hy : y ≤ 2130706432) : fgt .f32 x y = decide (V32 y < V32 x) := by
  show (Ieee.single.order x y == some .gt) = _
  rw [order_V hx hy]
  simp only [compare, compareOfLessAndEq]
  by_cases c1 : ((V32 x : Nat) : Int) < ((V32 y : Nat) : Int)
  · rw [if_pos c1, decide_eq_false (by omega)]; rfl
  · rw [if_neg c1]
    by_cases c2 : ((V32 x : Nat) : Int) = ((V32 y : Nat) : Int)
    · rw [if_pos c2, decide_eq_false (by omega)]; rfl
    · rw [if_neg c2, decide_eq_true (by omega)]; rfl

theorem V_zero : V32 0 = 0 := by decide
theorem V_one : V32 1065353216 = 2 ^ 149 := by decide

theorem nearest_neg (mag : Nat) (p : Int) : Ieee.single.nearest true mag p % 2147483648 = RN mag p := by
  have hr := RN_pos mag p
  unfold RN Ieee.Format.nearest at *
  by_cases h0 : mag = 0
  · rw [if_pos h0, if_pos h0]; decide
  · rw [if_neg h0] at hr ⊢
    rw [if_neg h0]
    have hw : ∀ r, Ieee.single.word false r = r := fun r => rfl
    simp only [ir32, hw] at hr ⊢
    rw [word_mod32 (Nat.min_le_right _ _)]
    simp only [cut_full]

theorem sub_small {x y c : Nat} (hx : x ≤ 2130706432) (hy : y ≤ 2130706432) (hc : c ≤ 2130706432) (h1 : V32 x ≤ V32 y + V32 c) (h2 : V32 y ≤ V32 x + V32 c) : (fop .sub .f32 x y) % 2147483648 ≤ c := by
  obtain ⟨m, i, e1, v1⟩ := read_pos hx
  obtain ⟨n, j, e2, v2⟩ := read_pos hy
  have hcc : RN (V32 c) (-149) = c := by rw [RN_V (K := 254) (by unfold bd; omega) (by omega) (by omega), Nat.mod_eq_of_lt (by omega)]
  rw [sub_read e1 e2]
  simp only [Bool.not_false, signed_false, signed_true]
  have hmin : min (-149 + (i : Int)) (-149 + (j : Int)) = -149 + ((min i j : Nat) : Int) := by omega
  have e3 : (-149 + (i : Int) - (-149 + ((min i j : Nat) : Int))).toNat = i - min i j := by omega
  have e4 : (-149 + (j : Int) - (-149 + ((min i j : Nat) : Int))).toNat = j - min i j := by omega
  rw [hmin, e3, e4]
  have sA : V32 x = m * 2 ^ (i - min i j) * 2 ^ min i j := by rw [v1, Nat.mul_assoc, ← Nat.pow_add, show i - min i j + min i j = i by omega]
  have sB : V32 y = n * 2 ^ (j - min i j) * 2 ^ min i j := by rw [v2, Nat.mul_assoc, ← Nat.pow_add, show j - min i j + min i j = j by omega]
  generalize m * 2 ^ (i - min i j) = A at *
  generalize n * 2 ^ (j - min i j) = B at *
  have key : ∀ d : Nat, d * 2 ^ min i j ≤ V32 c → RN d (-149 + ((min i j : Nat) : Int)) ≤ c := fun d hd => by
    have := RN_scale d (min i j) (-149 + ((min i j : Nat) : Int))
    rw [show -149 + ((min i j : Nat) : Int) - ((min i j : Nat) : Int) = -149 by omega] at this
    rw [← this]
    exact Nat.le_trans (RN_mono hd) (Nat.le_of_eq hcc)
  have hd : (((A : Nat) : Int) + -((B : Nat) : Int)).natAbs * 2 ^ min i j ≤ V32 c := by
    by_cases hab : B ≤ A
    · rw [show (((A : Nat) : Int) + -((B : Nat) : Int)).natAbs = A - B by omega, Nat.sub_mul]; omega
    · rw [show (((A : Nat) : Int) + -((B : Nat) : Int)).natAbs = B - A by omega, Nat.sub_mul]; omega
  have hk := key _ hd
  generalize (((A : Nat) : Int) + -((B : Nat) : Int)).natAbs = D at *
  rw [canon_bd (nearest_le255 _ _ _) (Nat.le_refl _)]
  cases (if ((A : Nat) : Int) + -((B : Nat) : Int) = 0 then false && true else decide (((A : Nat) : Int) + -((B : Nat) : Int) < 0)) with
  | false =>
    show RN D _ % 2147483648 ≤ c
    have := RN_pos D (-149 + ((min i j : Nat) : Int))
    rw [Nat.mod_eq_of_lt (by omega)]; exact hk
  | true => rw [nearest_neg]; exact hk

theorem small_order {z c : Nat} (hz : z % 2147483648 ≤ c) (hc : c ≤ 2130706432) : fle .f32 z c = true ∧ fge .f32 z (2147483648 + c) = true := by
  have hb : bd z 254 := by unfold bd; omega
  obtain ⟨m, i, e1, v1⟩ := read_V hb (by omega) (by omega)
  obtain ⟨n, j, e2, v2⟩ := read_pos hc
  have hbc : bd (2147483648 + c) 254 := by unfold bd; omega
  obtain ⟨n', j', e3, v3⟩ := read_V hbc (by omega) (by omega)
  have hs : ((2147483648 + c) / 2147483648 % 2 == 1) = true := by
    have : (2147483648 + c) / 2147483648 = 1 := by omega
    rw [this]; rfl
  rw [hs] at e3
  have hV : V32 z ≤ V32 c := by
    have : V32 z = V32 (z % 2147483648) := V_mod (Nat.mod_mod _ _).symm
    rw [this]
    exact V_mono (Nat.mod_lt _ (by omega)) (by omega) hz
  have hVc : V32 (2147483648 + c) = V32 c := V_mod (by omega)
  constructor
  · rw [fle_num e1 e2]
    refine decide_eq_true ?_
    have h1 := scaled_min (m := m) (n := n) (i := i) (j := j)
    rw [← v1, ← v2] at h1
    have h1 := h1.2 hV
    cases (z / 2147483648 % 2 == 1) with
    | false => rw [signed_false, signed_false]; omega
    | true => rw [signed_true, signed_false]; omega
  · rw [fge_num e1 e3]
    refine decide_eq_true ?_
    have h1 := scaled_min (m := m) (n := n') (i := i) (j := j')
    rw [← v1, ← v3, hVc] at h1
    have h1 := h1.2 hV
    cases (z / 2147483648 % 2 == 1) with
    | false => rw [signed_false, signed_true]; omega
    | true => rw [signed_true, signed_true]; omega

theorem Vc_eq : V32 981668463 = 8589935 * 2 ^ 116 := by decide

theorem nearOne_of {s : Nat} (hs : s ≤ 2130706432) (h : Near 40 (V32 s) (2 ^ 149)) : nearOne s = true := by
  have h1 := h.le (by omega)
  have h2 := h.symm.le (by omega)
  have e : (2 : Nat) ^ 149 = 8589934592 * 2 ^ 116 := by decide
  have hz := sub_small (x := s) (y := 1065353216) (c := 981668463) hs (by omega) (by omega) (by
    rw [V_one, Vc_eq]
    rw [e] at h1 h2 ⊢
    generalize 2 ^ 116 = P at *
    omega) (by
    rw [V_one, Vc_eq]
    rw [e] at h1 h2 ⊢
    generalize 2 ^ 116 = P at *
    omega)
  have := small_order hz (by omega)
  unfold nearOne
  rw [this.1]
  exact this.2

theorem sumF_near {xs : List Nat} {b : Nat} (hb : 23 ≤ b) (hx : ∀ i, i < xs.length → xs.getD i 0 ≤ 2130706432 ∧ V32 (xs.getD i 0) ≤ 2 ^ b) : ∀ n, n ≤ xs.length → b + n ≤ 274 →
    sumF xs n ≤ 2130706432 ∧ V32 (sumF xs n) ≤ 2 ^ (b + n) ∧ Near n (V32 (sumF xs n)) (sumN (fun i => V32 (xs.getD i 0)) n) ∧ ∀ i, i < n → xs.getD i 0 ≤ sumF xs n
  | 0, _, _ => by
    refine ⟨by unfold sumF; omega, ?_, ?_, fun i hi => absurd hi (Nat.not_lt_zero i)⟩
    · unfold sumF; rw [V_zero]; exact Nat.zero_le _
    · unfold sumF sumN; rw [V_zero]; exact Near.refl _ _
  | n + 1, hn, hbn => by
    obtain ⟨h1, h2, h3, h4⟩ := sumF_near hb hx n (by omega) (by omega)
    obtain ⟨x1, x2⟩ := hx n (by omega)
    obtain ⟨q1, q2, q3, q4, q5⟩ := add_rg (b := b + n) h1 x1 (by omega) (by omega) h2 (Nat.le_trans x2 (Nat.pow_le_pow_right (by omega) (by omega)))
    refine ⟨q1, q2, ?_, fun i hi => ?_⟩
    · have := q3.trans ((h3.add (Near.refl n (V32 (xs.getD n 0)))))
      rw [Nat.add_comm 1 n] at this
      exact this
    · show xs.getD i 0 ≤ fop .add .f32 (sumF xs n) (xs.getD n 0)
      by_cases e : i = n
      · subst e; exact q5
      · exact Nat.le_trans (h4 i (by omega)) q4

theorem ent_lo {A B w r T : Nat} (hA : A = 64 * B) (h0 : 0 < A) (l1 : A ≤ w) (h5 : w * A * 10000 ≤ r * T * 10001) (l5 : T * 10000 ≤ 32 * A * 10001) : B ≤ r := by
  have h6 : A * 10000 * 10000 ≤ r * 32 * 10001 * 10001 := by
    refine Nat.le_of_mul_le_mul_right (c := A) ?_ h0
    calc A * 10000 * 10000 * A = A * A * 10000 * 10000 := by rw [Nat.mul_right_comm (A * 10000) 10000 A, Nat.mul_right_comm A 10000 A]
      _ ≤ w * A * 10000 * 10000 := Nat.mul_le_mul_right _ (Nat.mul_le_mul_right _ (Nat.mul_le_mul_right _ l1))
      _ ≤ r * T * 10001 * 10000 := Nat.mul_le_mul_right _ h5
      _ = r * (T * 10000) * 10001 := by rw [Nat.mul_right_comm (r * T) 10001 10000, Nat.mul_assoc r T 10000]
      _ ≤ r * (32 * A * 10001) * 10001 := Nat.mul_le_mul_right _ (Nat.mul_le_mul_left _ l5)
      _ = r * 32 * 10001 * 10001 * A := by rw [← Nat.mul_assoc, ← Nat.mul_assoc, Nat.mul_right_comm (r * 32) A 10001, Nat.mul_right_comm (r * 32 * 10001) A 10001]
  omega

theorem tot_hi {T S A : Nat} (h1 : T * 10000 ≤ S * 10001) (h2 : S ≤ 4 * (8 * A)) : T * 10000 ≤ 32 * A * 10001 := by
  have h3 : 4 * (8 * A) = 32 * A := by rw [← Nat.mul_assoc]
  rw [h3] at h2
  exact Nat.le_trans h1 (Nat.mul_le_mul_right _ h2)

def Ent (x : Nat) : Prop := Rg 143 149 x

theorem row_ok {ws : List Nat} (h1 : 1 ≤ ws.length) (h4 : ws.length ≤ 4) (hw : ∀ i, i < ws.length → Rg 149 152 (ws.getD i 0)) :
    okRow (quoF ws (sumF ws ws.length)) = true ∧ (quoF ws (sumF ws ws.length)).length = ws.length ∧ ∀ i, i < ws.length → Ent ((quoF ws (sumF ws ws.length)).getD i 0) := by
  have hl := quoF_len ws (sumF ws ws.length)
  obtain ⟨s1, s2, s3, s4⟩ := sumF_near (xs := ws) (b := 152) (by omega) (fun i hi => ⟨(hw i hi).fin, (hw i hi).hi⟩) ws.length (Nat.le_refl _) (by omega)
  have hg : ∀ i, i < ws.length → (quoF ws (sumF ws ws.length)).getD i 0 = fop .quo .f32 (ws.getD i 0) (sumF ws ws.length) := fun i hi => by
    unfold quoF
    rw [List.getD_eq_getElem?_getD, List.getElem?_map, List.getElem?_range hi]; rfl
  have hT0 := s4 0 (by omega)
  have hT : Rg 149 156 (sumF ws ws.length) := ⟨s1, Nat.le_trans (hw 0 (by omega)).lo (V_mono (by have := (hw 0 (by omega)).fin; omega) (by omega) hT0), Nat.le_trans s2 (Nat.pow_le_pow_right (by omega) (by omega))⟩
  have hTpos : 0 < V32 (sumF ws ws.length) := by have := hT.lo; have := pow_pos2 149; omega
  have hent : ∀ i, i < ws.length → Ent (fop .quo .f32 (ws.getD i 0) (sumF ws ws.length)) ∧ Near 2 (V32 (fop .quo .f32 (ws.getD i 0) (sumF ws ws.length)) * V32 (sumF ws ws.length)) (V32 (ws.getD i 0) * 2 ^ 149) := fun i hi => by
    obtain ⟨q1, q2⟩ := quo_rg (hw i hi) hT (by omega) (by omega) (by omega)
    have q3 := quo_share (x := ws.getD i 0) (y := sumF ws ws.length) (a := 254) (hw i hi).bd hT.bd (by omega) (by omega) (by have := (hw i hi).fin; unfold pos32; omega) (by unfold pos32; omega) (s4 i hi) (by
      intro e
      rw [e, V_zero] at hTpos
      exact Nat.lt_irrefl _ hTpos)
    refine ⟨⟨q1, ?_, ?_⟩, q2⟩
    · have h5 := q2.symm.le (by omega)
      have l1 := (hw i hi).lo
      have l2 := s3.le (by omega)
      have l3 := sumN_le (f := fun i => V32 (ws.getD i 0)) (c := 2 ^ 152) ws.length (fun j hj => (hw j hj).hi)
      have l4 : ws.length * 2 ^ 152 ≤ 4 * 2 ^ 152 := Nat.mul_le_mul_right _ h4
      generalize V32 (fop .quo .f32 (ws.getD i 0) (sumF ws ws.length)) = r at *
      generalize sumN (fun i => V32 (ws.getD i 0)) ws.length = S at *
      generalize V32 (sumF ws ws.length) = T at *
      have e1 : (2 : Nat) ^ 149 = 64 * 2 ^ 143 := by decide
      have e2 : (2 : Nat) ^ 152 = 8 * 2 ^ 149 := by decide
      rw [e2] at l3 l4
      have h0 := pow_pos2 149
      generalize V32 (ws.getD i 0) = W at *
      generalize (2 : Nat) ^ 149 = A at *
      generalize (2 : Nat) ^ 143 = B at *
      exact ent_lo e1 h0 l1 h5 (tot_hi l2 (Nat.le_trans l3 l4))
    · rw [← V_one]
      exact V_mono (by omega) (by omega) q3
  refine ⟨?_, hl, fun i hi => by rw [hg i hi]; exact (hent i hi).1⟩
  unfold okRow
  rw [Bool.and_eq_true]
  constructor
  · refine allN_iff.2 fun i _ hi => ?_
    have hi : i < ws.length := by omega
    rw [hg i hi]
    obtain ⟨q1, q2⟩ := hent i hi
    unfold share
    rw [fge_V q1.fin (by omega), fle_V q1.fin (by omega), V_zero, V_one]
    rw [decide_eq_true (Nat.zero_le _), decide_eq_true q1.hi]; rfl
  · obtain ⟨r1, r2, r3, _⟩ := sumF_near (xs := quoF ws (sumF ws ws.length)) (b := 149) (by omega) (fun i hi => by
      rw [hg i (by omega)]
      exact ⟨(hent i (by omega)).1.fin, (hent i (by omega)).1.hi⟩) ws.length (by omega) (by omega)
    rw [hl]
    refine nearOne_of r1 ?_
    have n1 : Near 2 (sumN (fun i => V32 ((quoF ws (sumF ws ws.length)).getD i 0)) ws.length * V32 (sumF ws ws.length)) (sumN (fun i => V32 (ws.getD i 0)) ws.length * 2 ^ 149) := by
      rw [sumN_mul, sumN_mul]
      exact near_sum _ fun i hi => by rw [hg i hi]; exact (hent i hi).2
    have n2 : Near (2 + ws.length) (sumN (fun i => V32 ((quoF ws (sumF ws ws.length)).getD i 0)) ws.length * V32 (sumF ws ws.length)) (2 ^ 149 * V32 (sumF ws ws.length)) := by
      refine n1.trans ?_
      rw [Nat.mul_comm (2 ^ 149)]
      exact s3.symm.mulr _
    exact (r3.trans (n2.cancel hTpos)).mono (by omega)

end Go.Proofs


/-
  A model is drawn.
-/
namespace Go.Proofs
open Go.Ide Go.IntWalk

theorem quoLoop {xs : List Nat} (all : Nat) (h : xs.length ≤ 1000000) : rounds (impl_shares_mv0_B1 xs all) ((0 : Int), xs) = some (quoF xs all) := by
  have h1 := rounds_forS (f := impl_shares_mv0_B1 xs all) (fun i out => (((i : Nat) : Int), out)) (fun i out => out.set i (fop .quo .f32 (out.getD i 0) all)) id (n := xs.length)
    (fun i out => out = (List.range i).map (fun i => fop .quo .f32 (xs.getD i 0) all) ++ xs.drop i)
    (fun i out hi ho => by
      have hol : out.length = xs.length := by rw [ho]; simp; omega
      have hg : out.getD i 0 = xs.getD i 0 := by
        rw [ho, List.getD_eq_getElem?_getD, List.getElem?_append_right (by simp)]
        simp [List.getD_eq_getElem?_getD]
      refine ⟨?_, ?_⟩
      · have j1 := idxN (i := i) (n := out.length) (by omega)
        unfold impl_shares_mv0_B1
        simp only [lenI, ltN hi, cond_true, Int.toNat_natCast, nextN hi (show xs.length ≤ 4294967296 by omega)]
        rw [guard_pos j1]
      · rw [hg, ho, drop_cons hi 0, set_at (by simp), List.range_succ, List.map_append]
        simp)
    (fun out _ => by
      unfold impl_shares_mv0_B1
      simp only [lenI, geN (Nat.le_refl _), cond_false]; rfl) xs.length 0 xs (by omega) (by simp)
  simp only [Int.natCast_zero] at h1
  have h2 := h1.2
  rw [List.drop_length, List.append_nil] at h2
  rw [h1.1]
  simp only [id]
  rw [h2]; rfl

theorem getD_appN {xs ys : List Nat} {i : Nat} : (xs ++ ys).getD i 0 = if i < xs.length then xs.getD i 0 else ys.getD (i - xs.length) 0 := by
  split
  · rename_i h; rw [List.getD_eq_getElem?_getD, List.getElem?_append_left h, List.getD_eq_getElem?_getD]
  · rename_i h; rw [List.getD_eq_getElem?_getD, List.getElem?_append_right (by omega), List.getD_eq_getElem?_getD]

theorem sumF_app {xs ys : List Nat} : ∀ n, n ≤ xs.length → sumF (xs ++ ys) n = sumF xs n
  | 0, _ => rfl
  | n + 1, h => by
    show fop .add .f32 (sumF (xs ++ ys) n) ((xs ++ ys).getD n 0) = fop .add .f32 (sumF xs n) (xs.getD n 0)
    rw [sumF_app n (by omega), getD_appN, if_pos (by omega)]

theorem weight {x : Int} (h : 0 ≤ x ∧ x < 5) : Rg 149 152 (fofint .f32 (wadd .i64 (1 : Int) x)) := by
  have hx : wadd .i64 (1 : Int) x = 1 + x := waddI (by omega)
  rw [hx]
  rcases (show x = 0 ∨ x = 1 ∨ x = 2 ∨ x = 3 ∨ x = 4 by omega) with rfl | rfl | rfl | rfl | rfl
  · rw [show fofint .f32 (1 + 0) = 1065353216 by decide]; exact ⟨by decide, by decide, by decide⟩
  · rw [show fofint .f32 (1 + 1) = 1073741824 by decide]; exact ⟨by decide, by decide, by decide⟩
  · rw [show fofint .f32 (1 + 2) = 1077936128 by decide]; exact ⟨by decide, by decide, by decide⟩
  · rw [show fofint .f32 (1 + 3) = 1082130432 by decide]; exact ⟨by decide, by decide, by decide⟩
  · rw [show fofint .f32 (1 + 4) = 1084227584 by decide]; exact ⟨by decide, by decide, by decide⟩

theorem drawRow32 {k g : Nat} (k1 : 1 ≤ k) (k4 : k ≤ 4) {s : SrcD} (hs : SrcOK (8 + g) s) :
    ∃ row s', spec_b10Row s (k : Int) = some (row, s') ∧ okRow row = true ∧ row.length = k ∧ (∀ i, i < k → Ent (row.getD i 0)) ∧ SrcOK g s' := by
  obtain ⟨r, er, r1, r2, r3, r4⟩ := rounds_inv (f := spec_b10Row_B2 (k : Int)) (fun m st => ∃ (i : Nat) (s : SrcD) (ws : List Nat), m + i = k ∧ st = (sumF ws ws.length, (i : Int), s, ws) ∧ ws.length = i ∧ SrcOK (m * 2 + g) s ∧ ∀ j, j < ws.length → Rg 149 152 (ws.getD j 0))
    (fun r => r.1 = sumF r.2.2 r.2.2.length ∧ r.2.2.length = k ∧ SrcOK g r.2.1 ∧ ∀ j, j < r.2.2.length → Rg 149 152 (r.2.2.getD j 0)) (by
      rintro m st ⟨i, s, ws, hm, rfl, hl, hs2, hw⟩
      unfold spec_b10Row_B2
      by_cases hi : i < k
      · obtain ⟨x, s', e, x1, x2, o⟩ := pick_ok (n := (m - 1) * 2 + g) (hs2.mono (by omega)) (5 : Int)
        have hwt := weight (x := x) (by omega)
        simp only [ltN hi, cond_true, e, Option.bind_some, nextN hi (show k ≤ 4294967296 by omega)]
        rw [guard_pos (by simp only [List.length_singleton, appMax]; omega)]
        refine .inl ⟨m - 1, _, by omega, rfl, i + 1, s', ws ++ [fofint .f32 (wadd .i64 (1 : Int) x)], by omega, ?_, by simp; omega, o, fun j hj => ?_⟩
        · congr 1
          rw [List.length_append, List.length_singleton]
          show _ = fop .add .f32 (sumF (ws ++ [fofint .f32 (wadd .i64 (1 : Int) x)]) ws.length) ((ws ++ [fofint .f32 (wadd .i64 (1 : Int) x)]).getD ws.length 0)
          rw [sumF_app _ (Nat.le_refl _), getD_appN, if_neg (Nat.lt_irrefl _), Nat.sub_self]
          rfl
        · rw [getD_appN]
          split
          · rename_i h; exact hw j h
          · have : j - ws.length = 0 := by simp at hj; omega
            rw [this]; exact hwt
      · have hik : i = k := by omega
        simp only [geN (show k ≤ i by omega), cond_false]
        exact .inr ⟨_, rfl, rfl, by simp only; omega, hs2.mono (by omega), hw⟩) k ((0 : Nat), (0 : Int), s, ([] : List Nat)) ⟨0, s, [], by omega, rfl, rfl, hs.mono (by omega), fun j hj => by simp at hj⟩
  obtain ⟨T, s', ws⟩ := r
  simp only at r1 r2 r3 r4
  obtain ⟨q1, q2, q3⟩ := row_ok (ws := ws) (by omega) (by omega) r4
  rw [← r1] at q1 q2 q3
  refine ⟨quoF ws T, s', ?_, q1, by omega, fun i hi => q3 i (by omega), r3⟩
  have hq : rounds (spec_b10Row_B1 (T, s', ws)) ((0 : Int), ws) = some (quoF ws T) := by
    have : spec_b10Row_B1 (T, s', ws) = impl_shares_mv0_B1 ws T := rfl
    rw [this, quoLoop T (by omega)]
  unfold spec_b10Row
  simp only [er, hq, Option.bind_some]

structure RowsOK (w i : Nat) (xs : List Nat) : Prop where
  len : xs.length = i * w
  ok : ∀ p, p < i → okRow (rowF xs w p) = true
  ent : ∀ p, p < xs.length → Ent (xs.getD p 0)

theorem RowsOK.snoc {w i : Nat} {xs row : List Nat} (h : RowsOK w i xs) (hr : okRow row = true) (hl : row.length = w) (he : ∀ j, j < w → Ent (row.getD j 0)) : RowsOK w (i + 1) (xs ++ row) := by
  have hlen := h.len
  refine ⟨by rw [List.length_append, hlen, hl, Nat.succ_mul], fun p hp => ?_, fun p hp => ?_⟩
  · by_cases e : p < i
    · have hpw : p * w + w ≤ i * w := by rw [← Nat.succ_mul]; exact Nat.mul_le_mul_right _ e
      have : rowF (xs ++ row) w p = rowF xs w p := by
        unfold rowF
        rw [List.drop_append_of_le_length (by omega), List.take_append_of_le_length (by rw [List.length_drop]; omega)]
      rw [this]; exact h.ok p e
    · have hpi : p = i := by omega
      subst hpi
      have : rowF (xs ++ row) w p = row := by
        unfold rowF
        rw [← hlen, List.drop_left, ← hl, List.take_length]
      rw [this]; exact hr
  · rw [getD_appN]
    rw [List.length_append] at hp
    split
    · rename_i h2; exact h.ent p h2
    · exact he _ (by omega)

structure Drawn (a b : Nat) (fs ss hs : List Nat) : Prop where
  a4 : a ≤ 4
  ok : okModel (a : Int) (b : Int) fs ss hs = true
  m : Model a b fs ss hs
  ef : ∀ i, i < a → Ent (fs.getD i 0)
  es : ∀ i j, i < a → j < a → Ent (ss.getD (i * a + j) 0)
  eh : ∀ i j, i < a → j < b → Ent (hs.getD (i * b + j) 0)

theorem cell_lt {a b i j : Nat} (hi : i < a) (hj : j < b) : i * b + j < a * b := by
  have : i * b + b ≤ a * b := by rw [← Nat.succ_mul]; exact Nat.mul_le_mul_right _ hi
  omega

theorem drawModel {c : List Int} (hc : BytesI c) {b : Nat} (b1 : 1 ≤ b) (b4 : b ≤ 4) : ∃ (a : Nat) (fs ss hs : List Nat), spec_B10Model c (b : Int) = some ((a : Int), (b : Int), fs, ss, hs) ∧ Drawn a b fs ss hs := by
  obtain ⟨ef, of⟩ := SrcOK.from hc
  obtain ⟨x, s1, e1, x1, x2, o1⟩ := pick_ok (n := 10000) (of.mono (by omega)) (4 : Int)
  obtain ⟨a, ha, a1, a4⟩ : ∃ a : Nat, wadd .i64 (1 : Int) x = (a : Int) ∧ 1 ≤ a ∧ a ≤ 4 := ⟨(1 + x).toNat, by rw [waddI (by omega)]; omega, by omega, by omega⟩
  obtain ⟨fs, s2, e2, f1, f2, f3, o2⟩ := drawRow32 (k := a) a1 a4 (g := 5000) (o1.mono (by omega))
  obtain ⟨r, er, r1, r2⟩ := rounds_inv (f := spec_B10Model_B1 (b : Int) (x, s1)) (fun m st => ∃ (i : Nat) (s : SrcD) (ss hs : List Nat), m + i = a ∧ st = ((i : Int), s, ss, hs) ∧ SrcOK (m * 100) s ∧ RowsOK a i ss ∧ RowsOK b i hs)
    (fun r => RowsOK a a r.1 ∧ RowsOK b a r.2) (by
      rintro m st ⟨i, s, ss, hs, hm, rfl, hsr, h1, h2⟩
      unfold spec_B10Model_B1
      simp only [ha]
      have l1 := h1.len
      have l2 := h2.len
      by_cases hi : i < a
      · obtain ⟨row, s3, q1, q2, q3, q4, q5⟩ := drawRow32 (k := a) a1 a4 (g := (m - 1) * 100 + 50) (hsr.mono (by omega))
        obtain ⟨row2, s4, p1, p2, p3, p4, p5⟩ := drawRow32 (k := b) b1 b4 (g := (m - 1) * 100) (q5.mono (by omega))
        have hia : i * a ≤ 4 * 4 := Nat.mul_le_mul (by omega) a4
        have hib : i * b ≤ 4 * 4 := Nat.mul_le_mul (by omega) b4
        simp only [ltN hi, cond_true, q1, p1, Option.bind_some, nextN hi (show a ≤ 4294967296 by omega)]
        rw [guard_pos (by simp only [appMax]; omega), guard_pos (by simp only [appMax]; omega)]
        exact .inl ⟨m - 1, _, by omega, rfl, i + 1, s4, _, _, by omega, rfl, p5, h1.snoc q2 q3 q4, h2.snoc p2 p3 p4⟩
      · have hia : i = a := by omega
        rw [hia] at h1 h2
        simp only [geN (show a ≤ i by omega), cond_false]
        exact .inr ⟨_, rfl, h1, h2⟩) a ((0 : Int), s2, ([] : List Nat), ([] : List Nat)) ⟨0, s2, [], [], by omega, rfl, o2.mono (by omega), ⟨by simp, fun p hp => absurd hp (Nat.not_lt_zero p), fun p hp => by simp at hp⟩, ⟨by simp, fun p hp => absurd hp (Nat.not_lt_zero p), fun p hp => by simp at hp⟩⟩
  obtain ⟨ss, hs⟩ := r
  simp only at r1 r2
  have m1 : a * a ≤ 4 * 4 := Nat.mul_le_mul a4 a4
  have m2 : a * b ≤ 4 * 4 := Nat.mul_le_mul a4 b4
  have ls := r1.len
  have lh := r2.len
  have hok : okModel (a : Int) (b : Int) fs ss hs = true := by
    unfold okModel
    rw [wmulI (by rw [← Int.natCast_mul]; omega), ← Int.natCast_mul, wmulI (by rw [← Int.natCast_mul]; omega), ← Int.natCast_mul]
    simp only [Bool.and_eq_true, decide_eq_true_eq, beq_iff_eq, lenI, Int.toNat_natCast]
    exact ⟨⟨by omega, by omega⟩, ⟨by omega, by omega⟩, by omega, by omega, by omega, f1, allN_iff.2 fun i _ hi => r1.ok i (by omega), allN_iff.2 fun i _ hi => r2.ok i (by omega)⟩
  obtain ⟨a', b', ha', hb', mm⟩ := model_of hok
  have ea : a' = a := by omega
  have eb : b' = b := by omega
  subst ea eb
  refine ⟨a', fs, ss, hs, ?_, a4, hok, mm, fun i hi => f3 i hi, fun i j hi hj => r1.ent _ (by rw [ls]; exact cell_lt hi hj), fun i j hi hj => r2.ent _ (by rw [lh]; exact cell_lt hi hj)⟩
  unfold spec_B10Model
  simp only [ef, e1, ha, e2, er, Option.bind_some]

section
variable {a b : Nat} {fs ss hs : List Nat}

def RowRg (a lo hi : Nat) (row : List Nat) : Prop := ∀ i, i < a → Rg lo hi (row.getD i 0)

theorem sum_rg {f : Nat → Nat} {t : Nat → Nat} {lo hi : Nat} (hb : 23 ≤ hi) (h0 : f 0 = 0) (hs : ∀ p, f (p + 1) = fop .add .f32 (f p) (t p)) : ∀ n, (∀ p, p < n → Rg lo hi (t p)) → hi + n ≤ 274 →
    f n ≤ 2130706432 ∧ V32 (f n) ≤ 2 ^ (hi + n) ∧ Near n (V32 (f n)) (sumN (fun p => V32 (t p)) n) ∧ (1 ≤ n → 2 ^ lo ≤ V32 (f n))
  | 0, _, _ => by
    rw [h0, V_zero]
    exact ⟨by omega, Nat.zero_le _, Near.refl _ _, fun h => absurd h (by omega)⟩
  | n + 1, ht, hn => by
    obtain ⟨h1, h2, h3, h4⟩ := sum_rg hb h0 hs n (fun p hp => ht p (by omega)) (by omega)
    have hx := ht n (by omega)
    obtain ⟨q1, q2, q3, q4, q5⟩ := add_rg (b := hi + n) h1 hx.fin (by omega) (by omega) h2 (Nat.le_trans hx.hi (Nat.pow_le_pow_right (by omega) (by omega)))
    rw [hs]
    refine ⟨q1, q2, ?_, fun _ => ?_⟩
    · have := q3.trans (h3.add (Near.refl n (V32 (t n))))
      rw [Nat.add_comm 1 n] at this
      exact this
    · exact Nat.le_trans hx.lo (V_mono (by have := hx.fin; omega) (by omega) q5)

theorem next_rg (d : Drawn a b fs ss hs) {row : List Nat} {c lo hi : Nat} (hc : c < b) (hr : RowRg a lo hi row) (h1 : 39 ≤ lo) (h2 : lo ≤ hi) (h3 : hi ≤ 250) : RowRg a (lo - 12) (hi + 4) (nextF a b ss hs row c) := fun j hj => by
  have a4 := d.a4
  rw [nextF_get hj]
  have ht : ∀ p, p < a → Rg (lo - 12) hi (fop .mul .f32 (fop .mul .f32 (row.getD p 0) (hs.getD (p * b + c) 0)) (ss.getD (p * a + j) 0)) := fun p hp => by
    have m1 := (mul_rg (hr p hp) (d.eh p c hp hc) (by omega) (by omega) (by omega) (by omega)).1
    have m2 := (mul_rg m1 (d.es p j hp hj) (by omega) (by omega) (by omega) (by omega)).1
    exact m2.mono (by omega) (by omega)
  obtain ⟨q1, q2, _, q4⟩ := sum_rg (f := cellF a b ss hs row c j) (by omega) rfl (fun p => rfl) a ht (by omega)
  exact ⟨q1, q4 (by omega), Nat.le_trans q2 (Nat.pow_le_pow_right (by omega) (by omega))⟩

theorem fwd_rg (d : Drawn a b fs ss hs) {w : List Int} (hw : Letters b w) (hl : w.length ≤ 6) : ∀ i, i ≤ w.length → RowRg a (143 - 12 * i) (149 + 4 * i) (rowAt a b fs ss hs w i)
  | 0, _ => fun i hi => d.ef i hi
  | i + 1, hi => by
    obtain ⟨c, hc, hc2⟩ := hw i (by omega)
    have := next_rg d hc2 (fwd_rg d hw hl i (by omega)) (by omega) (by omega) (by omega)
    rw [rowAt, hc, Int.toNat_natCast]
    exact fun j hj => (this j hj).mono (by omega) (by omega)

theorem prev_rg (d : Drawn a b fs ss hs) {row : List Nat} {c lo hi : Nat} (hc : c < b) (hr : RowRg a lo hi row) (h1 : 39 ≤ lo) (h2 : lo ≤ hi) (h3 : hi ≤ 250) :
    RowRg a (lo - 12) (hi + 4) (prevB a b ss hs row c) ∧ ∀ i, i < a → Near (a + 2) (V32 ((prevB a b ss hs row c).getD i 0) * (2 ^ 149 * 2 ^ 149)) (sumN (fun p => V32 (hs.getD (i * b + c) 0) * V32 (ss.getD (i * a + p) 0) * V32 (row.getD p 0)) a) := by
  have a4 := d.a4
  have ht : ∀ i p, i < a → p < a → Rg (lo - 12) hi (fop .mul .f32 (fop .mul .f32 (hs.getD (i * b + c) 0) (ss.getD (i * a + p) 0)) (row.getD p 0)) ∧
      Near 2 (V32 (fop .mul .f32 (fop .mul .f32 (hs.getD (i * b + c) 0) (ss.getD (i * a + p) 0)) (row.getD p 0)) * (2 ^ 149 * 2 ^ 149)) (V32 (hs.getD (i * b + c) 0) * V32 (ss.getD (i * a + p) 0) * V32 (row.getD p 0)) := fun i p hi hp => by
    obtain ⟨m1, n1⟩ := mul_rg (d.eh i c hi hc) (d.es i p hi hp) (by omega) (by omega) (by omega) (by omega)
    obtain ⟨m2, n2⟩ := mul_rg m1 (hr p hp) (by omega) (by omega) (by omega) (by omega)
    refine ⟨m2.mono (by omega) (by omega), ?_⟩
    have n3 := (n2.mulr (2 ^ 149)).trans (by
      have := n1.mulr (V32 (row.getD p 0))
      rwa [Nat.mul_right_comm] at this)
    rwa [Nat.mul_assoc] at n3
  have key := fun i (hia : i < a) => sum_rg (f := cellB a b ss hs row c i) (lo := lo - 12) (hi := hi) (by omega) rfl (fun p => rfl) a (fun p hp => (ht i p hia hp).1) (by omega)
  constructor
  · intro i hi
    obtain ⟨q1, q2, _, q4⟩ := key i hi
    rw [prevB_get hi]
    exact ⟨q1, q4 (by omega), Nat.le_trans q2 (Nat.pow_le_pow_right (by omega) (by omega))⟩
  · intro i hi
    obtain ⟨_, _, q3, _⟩ := key i hi
    rw [prevB_get hi]
    refine (q3.mulr _).trans ?_
    rw [sumN_mul]
    exact near_sum _ fun p hp => (ht i p hi hp).2

theorem one_rg : Rg 149 149 1065353216 := ⟨by decide, by rw [V_one]; exact Nat.le_refl _, by rw [V_one]; exact Nat.le_refl _⟩

theorem bwd_rg (d : Drawn a b fs ss hs) {w : List Int} (hw : Letters b w) (hl : w.length ≤ 6) : ∀ k, k ≤ w.length → RowRg a (149 - 12 * k) (149 + 4 * k) (rowE a b ss hs w k)
  | 0, _ => fun i hi => by
    rw [rowE, List.getD_eq_getElem?_getD, List.getElem?_replicate, if_pos hi]
    exact one_rg
  | k + 1, hk => by
    obtain ⟨c, hc, hc2⟩ := hw (w.length - (k + 1)) (by omega)
    have := (prev_rg d hc2 (bwd_rg d hw hl k (by omega)) (by omega) (by omega) (by omega)).1
    rw [rowE, hc, Int.toNat_natCast]
    exact fun j hj => (this j hj).mono (by omega) (by omega)

end
end Go.Proofs


/-
  Hidden states and steps: their chances.
-/
namespace Go.Proofs
open Go.Ide Go.IntWalk

section
variable {a b : Nat} {fs ss hs : List Nat}

theorem hidF_get {f g : List Nat} {i : Nat} (hi : i < a) : (hidF a f g).getD i 0 = fop .mul .f32 (f.getD i 0) (g.getD i 0) := by
  unfold hidF
  rw [List.getD_eq_getElem?_getD, List.getElem?_map, List.getElem?_range hi]; rfl

theorem pairF_get {f g : List Nat} {c : Nat} : ∀ n i j, i < n → j < a → (pairF a b ss hs f g c n).getD (i * a + j) 0 = pairG a b ss hs f g c i j
  | n + 1, i, j, hi, hj => by
    rw [pairF, getD_appN, pairF_len]
    by_cases e : i < n
    · rw [if_pos (cell_lt e hj)]
      exact pairF_get n i j e hj
    · have hin : i = n := by omega
      subst hin
      rw [if_neg (by omega), show i * a + j - i * a = j by omega, List.getD_eq_getElem?_getD, List.getElem?_map, List.getElem?_range hj]; rfl

theorem quoF_get {xs : List Nat} {all i : Nat} (hi : i < xs.length) : (quoF xs all).getD i 0 = fop .quo .f32 (xs.getD i 0) all := by
  unfold quoF
  rw [List.getD_eq_getElem?_getD, List.getElem?_map, List.getElem?_range hi]; rfl

theorem shares_ok {xs : List Nat} {lo hi : Nat} (h1 : 1 ≤ xs.length) (h16 : xs.length ≤ 16) (hx : ∀ i, i < xs.length → Rg lo hi (xs.getD i 0)) (hlo : 64 ≤ lo) (hl2 : lo ≤ hi) (hhi : hi ≤ 173) :
    shF xs = (quoF xs (sumF xs xs.length), true) ∧ 0 < V32 (sumF xs xs.length) ∧ Near xs.length (V32 (sumF xs xs.length)) (sumN (fun i => V32 (xs.getD i 0)) xs.length) ∧
      ∀ i, i < xs.length → (quoF xs (sumF xs xs.length)).getD i 0 ≤ 1065353216 ∧ Near 2 (V32 ((quoF xs (sumF xs xs.length)).getD i 0) * V32 (sumF xs xs.length)) (V32 (xs.getD i 0) * 2 ^ 149) := by
  obtain ⟨s1, s2, s3, s4⟩ := sumF_near (xs := xs) (b := hi) (by omega) (fun i hi => ⟨(hx i hi).fin, (hx i hi).hi⟩) xs.length (Nat.le_refl _) (by omega)
  have hT : Rg lo (hi + 16) (sumF xs xs.length) := ⟨s1, Nat.le_trans (hx 0 (by omega)).lo (V_mono (by have := (hx 0 (by omega)).fin; omega) (by omega) (s4 0 (by omega))), Nat.le_trans s2 (Nat.pow_le_pow_right (by omega) (by omega))⟩
  have hTpos : 0 < V32 (sumF xs xs.length) := Nat.lt_of_lt_of_le (pow_pos2 lo) hT.lo
  have hq : ∀ i, i < xs.length → (quoF xs (sumF xs xs.length)).getD i 0 ≤ 1065353216 ∧ Near 2 (V32 ((quoF xs (sumF xs xs.length)).getD i 0) * V32 (sumF xs xs.length)) (V32 (xs.getD i 0) * 2 ^ 149) := fun i hi => by
    rw [quoF_get hi]
    obtain ⟨q1, q2⟩ := quo_rg (hx i hi) hT (by omega) (by omega) (by omega)
    refine ⟨quo_share (x := xs.getD i 0) (y := sumF xs xs.length) (a := 254) (hx i hi).bd hT.bd (by omega) (by omega) (by have := (hx i hi).fin; unfold pos32; omega) (by unfold pos32; omega) (s4 i hi) (fun e => ?_), q2⟩
    rw [e, V_zero] at hTpos
    exact Nat.lt_irrefl _ hTpos
  refine ⟨?_, hTpos, s3, hq⟩
  have hfin : fins (quoF xs (sumF xs xs.length)) = true := by
    unfold fins
    refine allN_iff.2 fun i _ hi => ?_
    rw [quoF_len] at hi
    exact fin_bd (K := 254) (by have := (hq i (by omega)).1; unfold bd; omega) (by omega) (by omega)
  unfold shF
  rw [fgt_V s1 (by omega), V_zero, decide_eq_true hTpos, cond_true, hfin, cond_true]

theorem hid_core (d : Drawn a b fs ss hs) {f g g' : List Nat} {t n c : Nat} (ht : t < n) (hn : n ≤ 6) (hcb : c < b) (hf : RowRg a (143 - 12 * t) (149 + 4 * t) f) (hg : RowRg a (149 - 12 * (n - t)) (149 + 4 * (n - t)) g)
    (hg' : RowRg a (149 - 12 * (n - (t + 1))) (149 + 4 * (n - (t + 1))) g')
    (hnear : ∀ i, i < a → Near (a + 2) (V32 (g.getD i 0) * (2 ^ 149 * 2 ^ 149)) (sumN (fun p => V32 (hs.getD (i * b + c) 0) * V32 (ss.getD (i * a + p) 0) * V32 (g'.getD p 0)) a)) :
    ∃ hq pq, shF (hidF a f g) = (hq, true) ∧ shF (pairF a b ss hs f g' c a) = (pq, true) ∧ hq.length = a ∧ pq.length = a * a ∧ (∀ i, i < a → hq.getD i 0 ≤ 1065353216) ∧ (∀ i j, i < a → j < a → pq.getD (i * a + j) 0 ≤ 1065353216) ∧
      (∀ i, i < a → Near 60 (sumN (fun j => V32 (pq.getD (i * a + j) 0)) a) (V32 (hq.getD i 0))) ∧ Near 10 (sumN (fun i => V32 (hq.getD i 0)) a) (2 ^ 149) := by
  have a1 := d.m.n1
  have a4 := d.a4
  have haa : a * a ≤ 4 * 4 := Nat.mul_le_mul a4 a4
  have haa1 : 1 * 1 ≤ a * a := Nat.mul_le_mul a1 a1
  have hHl : (hidF a f g).length = a := by simp [hidF]
  have hPl : (pairF a b ss hs f g' c a).length = a * a := pairF_len ..
  have hH : ∀ i, i < a → Rg 71 173 ((hidF a f g).getD i 0) ∧ Near 1 (V32 ((hidF a f g).getD i 0) * 2 ^ 149) (V32 (f.getD i 0) * V32 (g.getD i 0)) := fun i hi => by
    rw [hidF_get hi]
    obtain ⟨q1, q2⟩ := mul_rg (hf i hi) (hg i hi) (by omega) (by omega) (by omega) (by omega)
    exact ⟨q1.mono (by omega) (by omega), q2⟩
  have hP : ∀ i j, i < a → j < a → Rg 71 173 ((pairF a b ss hs f g' c a).getD (i * a + j) 0) ∧ Near 3 (V32 ((pairF a b ss hs f g' c a).getD (i * a + j) 0) * (2 ^ 149 * 2 ^ 149 * 2 ^ 149)) (V32 (f.getD i 0) * (V32 (hs.getD (i * b + c) 0) * V32 (ss.getD (i * a + j) 0) * V32 (g'.getD j 0))) := fun i j hi hj => by
    rw [pairF_get a i j hi hj]
    unfold pairG
    obtain ⟨m1, n1⟩ := mul_rg (hf i hi) (d.eh i c hi hcb) (by omega) (by omega) (by omega) (by omega)
    obtain ⟨m2, n2⟩ := mul_rg m1 (d.es i j hi hj) (by omega) (by omega) (by omega) (by omega)
    obtain ⟨m3, n3⟩ := mul_rg m2 (hg' j hj) (by omega) (by omega) (by omega) (by omega)
    refine ⟨m3.mono (by omega) (by omega), ?_⟩
    generalize fop .mul .f32 (fop .mul .f32 (fop .mul .f32 (f.getD i 0) (hs.getD (i * b + c) 0)) (ss.getD (i * a + j) 0)) (g'.getD j 0) = z3 at *
    generalize fop .mul .f32 (fop .mul .f32 (f.getD i 0) (hs.getD (i * b + c) 0)) (ss.getD (i * a + j) 0) = z2 at *
    generalize fop .mul .f32 (f.getD i 0) (hs.getD (i * b + c) 0) = z1 at *
    generalize V32 (f.getD i 0) = F at *
    generalize V32 (hs.getD (i * b + c) 0) = X at *
    generalize V32 (ss.getD (i * a + j) 0) = Y at *
    generalize V32 (g'.getD j 0) = Z at *
    generalize (2 : Nat) ^ 149 = A at *
    have k1 : Near (1 + (1 + 1)) (V32 z3 * A * A * A) (F * X * Y * Z) := by
      have e1 := (n3.mulr A).mulr A
      have e2 := (n2.mulr Z).mulr A
      have e3 := (n1.mulr Y).mulr Z
      rw [show V32 z2 * Z * A * A = V32 z2 * A * Z * A by ac_rfl] at e1
      rw [show V32 z1 * Y * Z * A = V32 z1 * A * Y * Z by ac_rfl] at e2
      exact e1.trans (e2.trans e3)
    rw [show V32 z3 * (A * A * A) = V32 z3 * A * A * A by ac_rfl, show F * (X * Y * Z) = F * X * Y * Z by ac_rfl]
    exact k1
  obtain ⟨u1, u2, u3, u4⟩ := shares_ok (xs := hidF a f g) (lo := 71) (hi := 173) (by omega) (by omega) (fun i hi => (hH i (by omega)).1) (by omega) (by omega) (by omega)
  have hcell : ∀ k, k < a * a → ∃ i j, i < a ∧ j < a ∧ k = i * a + j := fun k hk => ⟨k / a, k % a, Nat.div_lt_of_lt_mul hk, Nat.mod_lt _ a1, by rw [Nat.mul_comm]; exact (Nat.div_add_mod k a).symm⟩
  obtain ⟨v1, v2, v3, v4⟩ := shares_ok (xs := pairF a b ss hs f g' c a) (lo := 71) (hi := 173) (by omega) (by omega) (fun k hk => by
    obtain ⟨i, j, hi, hj, rfl⟩ := hcell k (by omega)
    exact (hP i j hi hj).1) (by omega) (by omega) (by omega)
  rw [hHl] at u1 u2 u3 u4
  rw [hPl] at v1 v2 v3 v4
  generalize sumF (hidF a f g) a = S1 at *
  generalize sumF (pairF a b ss hs f g' c a) (a * a) = S2 at *
  have hA := pow_pos2 149
  -- the steps from a state
  have hrow : ∀ i, i < a → Near 10 (sumN (fun j => V32 ((pairF a b ss hs f g' c a).getD (i * a + j) 0)) a) (V32 ((hidF a f g).getD i 0)) := fun i hi => by
    have k1 : Near 3 (sumN (fun j => V32 ((pairF a b ss hs f g' c a).getD (i * a + j) 0)) a * (2 ^ 149 * 2 ^ 149 * 2 ^ 149)) (V32 (f.getD i 0) * sumN (fun p => V32 (hs.getD (i * b + c) 0) * V32 (ss.getD (i * a + p) 0) * V32 (g'.getD p 0)) a) := by
      rw [sumN_mul, Nat.mul_comm (V32 (f.getD i 0)), sumN_mul]
      exact near_sum _ fun j hj => by rw [Nat.mul_comm _ (V32 (f.getD i 0))]; exact (hP i j hi hj).2
    have k2 := (hnear i hi).symm.mull (V32 (f.getD i 0))
    have k3 := ((hH i hi).2.symm).mulr (2 ^ 149 * 2 ^ 149)
    generalize sumN (fun p => V32 (hs.getD (i * b + c) 0) * V32 (ss.getD (i * a + p) 0) * V32 (g'.getD p 0)) a = Q at *
    generalize sumN (fun j => V32 ((pairF a b ss hs f g' c a).getD (i * a + j) 0)) a = L at *
    generalize (hidF a f g).getD i 0 = h at *
    generalize V32 (f.getD i 0) = F at *
    generalize V32 (g.getD i 0) = G at *
    generalize (2 : Nat) ^ 149 = A at *
    rw [show F * (G * (A * A)) = F * G * (A * A) by ac_rfl] at k2
    rw [show V32 h * A * (A * A) = V32 h * (A * A * A) by ac_rfl] at k3
    exact ((k1.trans (k2.trans k3)).cancel (Nat.mul_pos (Nat.mul_pos hA hA) hA)).mono (by omega)
  -- the wholes
  have hS : Near 30 (V32 S2) (V32 S1) := by
    have k1 := v3
    rw [sumN_rows] at k1
    have k2 := near_sum a hrow
    exact ((k1.trans k2).trans u3.symm).mono (by omega)
  have hql : (quoF (hidF a f g) S1).length = a := by rw [quoF_len, hHl]
  have hpl : (quoF (pairF a b ss hs f g' c a) S2).length = a * a := by rw [quoF_len, hPl]
  refine ⟨_, _, u1, v1, hql, hpl, fun i hi => (u4 i hi).1, fun i j hi hj => (v4 _ (cell_lt hi hj)).1, fun i hi => ?_, ?_⟩
  · have k1 : Near 2 (sumN (fun j => V32 ((quoF (pairF a b ss hs f g' c a) S2).getD (i * a + j) 0)) a * V32 S2) (sumN (fun j => V32 ((pairF a b ss hs f g' c a).getD (i * a + j) 0)) a * 2 ^ 149) := by
      rw [sumN_mul, sumN_mul]
      exact near_sum _ fun j hj => (v4 _ (cell_lt hi hj)).2
    have k2 := (hrow i hi).mulr (2 ^ 149)
    have k3 := (u4 i hi).2.symm
    have k4 := hS.symm.mull (V32 ((quoF (hidF a f g) S1).getD i 0))
    exact ((((k1.trans k2).trans k3).trans k4).cancel v2).mono (by omega)
  · have k1 : Near 2 (sumN (fun i => V32 ((quoF (hidF a f g) S1).getD i 0)) a * V32 S1) (sumN (fun i => V32 ((hidF a f g).getD i 0)) a * 2 ^ 149) := by
      rw [sumN_mul, sumN_mul]
      exact near_sum _ fun i hi => (u4 i hi).2
    have k2 := u3.symm.mulr (2 ^ 149)
    rw [Nat.mul_comm (V32 S1) (2 ^ 149)] at k2
    exact ((k1.trans k2).cancel u2).mono (by omega)

theorem hid_pair (d : Drawn a b fs ss hs) {w : List Int} (hw : Letters b w) (hl : w.length ≤ 6) {t : Nat} (ht : t < w.length) {c : Nat} (hc : w.getD t 0 = (c : Int)) (hcb : c < b) :
    ∃ hq pq, shF (hidF a (rowAt a b fs ss hs w t) (rowE a b ss hs w (w.length - t))) = (hq, true) ∧ shF (pairF a b ss hs (rowAt a b fs ss hs w t) (rowE a b ss hs w (w.length - (t + 1))) c a) = (pq, true) ∧ hq.length = a ∧ pq.length = a * a ∧ (∀ i, i < a → hq.getD i 0 ≤ 1065353216) ∧ (∀ i j, i < a → j < a → pq.getD (i * a + j) 0 ≤ 1065353216) ∧
      (∀ i, i < a → Near 60 (sumN (fun j => V32 (pq.getD (i * a + j) 0)) a) (V32 (hq.getD i 0))) ∧ Near 10 (sumN (fun i => V32 (hq.getD i 0)) a) (2 ^ 149) := by
  have hg' := bwd_rg d hw hl (w.length - (t + 1)) (by omega)
  have hstep : rowE a b ss hs w (w.length - t) = prevB a b ss hs (rowE a b ss hs w (w.length - (t + 1))) c := by
    rw [show w.length - t = (w.length - (t + 1)) + 1 by omega, rowE, show w.length - (w.length - (t + 1) + 1) = t by omega, hc, Int.toNat_natCast]
  have hnear := (prev_rg d hcb hg' (by omega) (by omega) (by omega)).2
  rw [← hstep] at hnear
  exact hid_core d ht hl hcb (fwd_rg d hw hl t (by omega)) (bwd_rg d hw hl (w.length - t) (by omega)) hg' hnear

end
end Go.Proofs


/-
  Floats of 64 bits that are not below nought. Printed by double.py.
-/
namespace Go.Proofs
open Go.Ide Go.IntWalk

def pos32D (x : Nat) : Prop := x < 9223372036854775808
def nnD (x : Nat) : Prop := x % 18446744073709551616 ≤ 9223372036854775808

def RND (u : Nat) (p : Int) : Nat := Ieee.double.nearest false u p

theorem RN_zeroD (p : Int) : RND 0 p = 0 := by
  unfold RND Ieee.Format.nearest
  rw [if_pos rfl]
  rfl

theorem RN_scaleD (u s : Nat) (p : Int) : RND (u * 2 ^ s) (p - s) = RND u p := nearest_scale

theorem RN_posD (u : Nat) (p : Int) : RND u p ≤ 9218868437227405312 := by
  obtain ⟨r, hr, e⟩ := nearest_word32D false u p
  unfold RND
  rw [e]
  exact hr

theorem RN_monoD {u v : Nat} {p : Int} (h : u ≤ v) : RND u p ≤ RND v p := by
  by_cases h0 : u = 0
  · subst h0; rw [RN_zeroD]; exact Nat.zero_le _
  have h1 : v ≠ 0 := by omega
  unfold RND Ieee.Format.nearest
  rw [if_neg h0, if_neg h1]
  have hf : Ieee.double.fractionBits = 52 := rfl
  simp only [lp32D, bi32D, ir32D, hf]
  have hlog : u.log2 ≤ v.log2 := by
    have a := Nat.log2_self_le h0
    exact (Nat.le_log2 h1).2 (by omega)
  have hw : ∀ r, Ieee.double.word false r = r := fun r => rfl
  rw [hw, hw]
  refine Nat.le_min.2 ⟨?_, Nat.min_le_right _ _⟩
  refine Nat.le_trans (Nat.min_le_left _ _) ?_
  by_cases he : max (p + (u.log2 : Int) - ((52 : Nat) : Int)) (-1074) = max (p + (v.log2 : Int) - ((52 : Nat) : Int)) (-1074)
  · rw [he]
    refine Nat.add_le_add_left (cut_mono ?_) _
    rw [Nat.shiftLeft_eq, Nat.shiftLeft_eq]
    exact Nat.mul_le_mul_right _ h
  · have hk := kept_le (neg := false) (mag := u) (f := 52) (p := p) (last := max (p + (u.log2 : Int) - ((52 : Nat) : Int)) (-1074)) (by omega)
    have hk2 := kept_ge (neg := false) (mag := v) (f := 52) (p := p) (last := max (p + (v.log2 : Int) - ((52 : Nat) : Int)) (-1074)) h1 (by omega)
    have e24 : (2 : Nat) ^ (52 + 1) = 9007199254740992 := by decide
    have e23 : (2 : Nat) ^ 52 = 4503599627370496 := by decide
    rw [e24] at hk
    rw [e23] at hk2
    have hl : (max (p + (u.log2 : Int) - ((52 : Nat) : Int)) (-1074) - -1074).toNat + 1 ≤ (max (p + (v.log2 : Int) - ((52 : Nat) : Int)) (-1074) - -1074).toNat := by omega
    have := Nat.mul_le_mul_right 4503599627370496 hl
    omega

def V32D (x : Nat) : Nat := if x % 9223372036854775808 < 4503599627370496 then x % 9223372036854775808 else (4503599627370496 + x % 9223372036854775808 % 4503599627370496) * 2 ^ (x % 9223372036854775808 / 4503599627370496 - 1)

theorem read_VD {x K : Nat} (h : bdD x K) (h2 : 2 ≤ K) (h3 : K ≤ 2046) : ∃ m i, Ieee.double.read x = .number (x / 9223372036854775808 % 2 == 1) m (-1074 + ((i : Nat) : Int)) ∧ V32D x = m * 2 ^ i := by
  unfold bdD at h
  unfold V32D
  by_cases hlo : x % 9223372036854775808 < 4503599627370496
  · exact ⟨_, 0, read_loD hlo, by rw [if_pos hlo, Nat.pow_zero, Nat.mul_one]⟩
  · exact ⟨_, _, read_hiD (by omega) (by omega), by rw [if_neg hlo]⟩

theorem V_monoD {x y : Nat} (hx : x < 9223372036854775808) (hy : y < 9223372036854775808) (h : x ≤ y) : V32D x ≤ V32D y := by
  unfold V32D
  rw [Nat.mod_eq_of_lt hx, Nat.mod_eq_of_lt hy]
  by_cases h1 : x < 4503599627370496
  · rw [if_pos h1]
    by_cases h2 : y < 4503599627370496
    · rw [if_pos h2]; exact h
    · rw [if_neg h2]
      have := Nat.mul_le_mul (show 4503599627370496 ≤ 4503599627370496 + y % 4503599627370496 by omega) (show 1 ≤ 2 ^ (y / 4503599627370496 - 1) from pow_pos2 _)
      omega
  · rw [if_neg h1, if_neg (by omega)]
    by_cases hq : x / 4503599627370496 = y / 4503599627370496
    · rw [hq]
      exact Nat.mul_le_mul_right _ (by omega)
    · have hlt : x / 4503599627370496 < y / 4503599627370496 := by omega
      have e1 : (4503599627370496 + x % 4503599627370496) * 2 ^ (x / 4503599627370496 - 1) ≤ 9007199254740992 * 2 ^ (x / 4503599627370496 - 1) := Nat.mul_le_mul_right _ (by omega)
      have e2 : 9007199254740992 * 2 ^ (x / 4503599627370496 - 1) = 4503599627370496 * 2 ^ (x / 4503599627370496) := by
        obtain ⟨q, hq'⟩ : ∃ q, x / 4503599627370496 = q + 1 := ⟨x / 4503599627370496 - 1, by omega⟩
        rw [hq', Nat.add_sub_cancel, Nat.pow_succ]; omega
      have e3 : 4503599627370496 * 2 ^ (x / 4503599627370496) ≤ 4503599627370496 * 2 ^ (y / 4503599627370496 - 1) := Nat.mul_le_mul_left _ (Nat.pow_le_pow_right (by omega) (by omega))
      have e4 : 4503599627370496 * 2 ^ (y / 4503599627370496 - 1) ≤ (4503599627370496 + y % 4503599627370496) * 2 ^ (y / 4503599627370496 - 1) := Nat.mul_le_mul_right _ (by omega)
      omega

theorem RN_VD {x K : Nat} (h : bdD x K) (h2 : 2 ≤ K) (h3 : K ≤ 2046) : RND (V32D x) (-1074) = x % 9223372036854775808 := by
  have hb : bdD (x % 9223372036854775808) K := by unfold bdD at *; rwa [Nat.mod_mod]
  obtain ⟨m, i, e, hv⟩ := read_VD hb h2 h3
  have hlt : x % 9223372036854775808 < 9223372036854775808 := Nat.mod_lt _ (by omega)
  rw [Nat.div_eq_of_lt hlt] at e
  have hn := nearest_readD (x := x % 9223372036854775808) (by omega) e
  have hV : V32D (x % 9223372036854775808) = V32D x := by unfold V32D; rw [Nat.mod_mod]
  rw [← hV, hv]
  have := RN_scaleD m i (-1074 + (i : Int))
  rw [show -1074 + (i : Int) - (i : Int) = -1074 by omega] at this
  rw [this]
  exact hn

theorem canon_RND (u : Nat) (p : Int) : fcanon .f64 (RND u p) = RND u p := canon_bdD (nearest_le255D _ _ _) (Nat.le_refl _)

theorem V_modD {x y : Nat} (h : x % 9223372036854775808 = y % 9223372036854775808) : V32D x = V32D y := by unfold V32D; rw [h]

theorem add_nnD {x y a : Nat} (hx : bdD x a) (hy : bdD y a) (ha : 2 ≤ a) (ha2 : a ≤ 2046) (px : pos32D x) (ny : nnD y) : fop .add .f64 x y = RND (V32D x + V32D y) (-1074) := by
  obtain ⟨m, i, e1, v1⟩ := read_VD hx ha ha2
  obtain ⟨n, j, e2, v2⟩ := read_VD hy ha ha2
  have s1 : (x / 9223372036854775808 % 2 == 1) = false := by
    unfold pos32D at px
    rw [Nat.div_eq_of_lt px]; rfl
  rw [s1] at e1
  have hn : (y / 9223372036854775808 % 2 == 1) = true → n = 0 := fun hs => by
    unfold nnD at ny
    have hy0 : y % 9223372036854775808 = 0 := by
      have := beq_iff_eq.1 hs
      omega
    rw [read_loD (by omega)] at e2
    injection e2 with _ e2 _
    omega
  have hsg : ∀ u, Ieee.signed (y / 9223372036854775808 % 2 == 1) n u = ((n * 2 ^ u : Nat) : Int) := fun u => by
    cases hs : (y / 9223372036854775808 % 2 == 1) with
    | false => exact signed_false _ _
    | true => rw [hn hs, signed_true]; simp
  rw [add_readD e1 e2]
  simp only [hsg, signed_false, Bool.false_and]
  have hmin : min (-1074 + (i : Int)) (-1074 + (j : Int)) = -1074 + ((min i j : Nat) : Int) := by omega
  rw [hmin]
  have e3 : (-1074 + (i : Int) - (-1074 + ((min i j : Nat) : Int))).toNat = i - min i j := by omega
  have e4 : (-1074 + (j : Int) - (-1074 + ((min i j : Nat) : Int))).toNat = j - min i j := by omega
  rw [e3, e4]
  generalize hA : m * 2 ^ (i - min i j) = A
  generalize hB : n * 2 ^ (j - min i j) = B
  have hneg : decide (((A : Nat) : Int) + ((B : Nat) : Int) < 0) = false := decide_eq_false (by omega)
  rw [hneg, ite_self, show (((A : Nat) : Int) + ((B : Nat) : Int)).natAbs = A + B by omega]
  have hs : V32D x + V32D y = (A + B) * 2 ^ min i j := by
    rw [v1, v2, ← hA, ← hB, Nat.add_mul, Nat.mul_assoc, Nat.mul_assoc, ← Nat.pow_add, ← Nat.pow_add, show i - min i j + min i j = i by omega, show j - min i j + min i j = j by omega]
  have := RN_scaleD (A + B) (min i j) (-1074 + ((min i j : Nat) : Int))
  rw [show -1074 + ((min i j : Nat) : Int) - ((min i j : Nat) : Int) = -1074 by omega, ← hs] at this
  rw [this]
  exact canon_RND _ _

theorem V_codeD {t k : Nat} (h1 : 4503599627370496 ≤ k) (h2 : k ≤ 9007199254740992) (h3 : t * 4503599627370496 + k < 9223372036854775808) : V32D (t * 4503599627370496 + k) = k * 2 ^ t := by
  unfold V32D
  rw [Nat.mod_eq_of_lt h3, if_neg (by omega)]
  by_cases e : k = 9007199254740992
  · subst e
    rw [show (t * 4503599627370496 + 9007199254740992) % 4503599627370496 = 0 by omega, show (t * 4503599627370496 + 9007199254740992) / 4503599627370496 - 1 = t + 1 by omega, Nat.pow_succ]
    omega
  · rw [show (t * 4503599627370496 + k) % 4503599627370496 = k - 4503599627370496 by omega, show (t * 4503599627370496 + k) / 4503599627370496 - 1 = t by omega, show 4503599627370496 + (k - 4503599627370496) = k by omega]

theorem near_coreD {k d t s u : Nat} (h1 : 4503599627370496 ≤ k) (h2 : k ≤ 9007199254740992) (hc : 2 * (k * 2 ^ d) ≤ 2 * u + 2 ^ d ∧ 2 * u ≤ 2 * (k * 2 ^ d) + 2 ^ d) (hf : min (t * 4503599627370496 + k) 9218868437227405312 < 9218868437227405312) (hd : t + s = d) : Near 1 (V32D (min (t * 4503599627370496 + k) 9218868437227405312) * 2 ^ s) u := by
  obtain ⟨hm, hlt⟩ := min_less hf
  rw [hm, V_codeD h1 h2 (Nat.lt_trans hlt (by decide)), Nat.mul_assoc, ← Nat.pow_add, hd]
  exact near_half (Nat.le_trans (by decide) h1) hc

theorem RN_nearD {u s : Nat} (h : 2 ^ (52 + s) ≤ u) (hf : RND u (-1074 - (s : Int)) < 9218868437227405312) : Near 1 (V32D (RND u (-1074 - (s : Int))) * 2 ^ s) u := by
  have h0 : u ≠ 0 := by have := pow_pos2 (52 + s); omega
  have hl : 52 + s ≤ u.log2 := (Nat.le_log2 h0).2 h
  have hk := kept_ge (neg := false) (mag := u) (f := 52) (p := -1074 - (s : Int)) (last := -1074 - (s : Int) + (u.log2 : Int) - ((52 : Nat) : Int)) h0 rfl
  have hk2 := kept_le (neg := false) (mag := u) (f := 52) (p := -1074 - (s : Int)) (last := -1074 - (s : Int) + (u.log2 : Int) - ((52 : Nat) : Int)) (by omega)
  have e24 : (2 : Nat) ^ (52 + 1) = 9007199254740992 := by decide
  have e23 : (2 : Nat) ^ 52 = 4503599627370496 := by decide
  rw [e23] at hk
  rw [e24] at hk2
  have hfr : Ieee.double.fractionBits = 52 := rfl
  have hlast : max (-1074 - (s : Int) + (u.log2 : Int) - ((52 : Nat) : Int)) (-1074) = -1074 - (s : Int) + (u.log2 : Int) - ((52 : Nat) : Int) := by omega
  have e1 : (-1074 - (s : Int) - (-1074 - (s : Int) + (u.log2 : Int) - ((52 : Nat) : Int))).toNat = 0 := by omega
  have e2 : (-1074 - (s : Int) + (u.log2 : Int) - ((52 : Nat) : Int) - (-1074 - (s : Int))).toNat = u.log2 - 52 := by omega
  have e3 : (-1074 - (s : Int) + (u.log2 : Int) - ((52 : Nat) : Int) - -1074).toNat = u.log2 - 52 - s := by omega
  rw [e1, e2, Nat.shiftLeft_zero] at hk hk2
  have hR : RND u (-1074 - (s : Int)) = min ((u.log2 - 52 - s) * 4503599627370496 + Ieee.Toward.cut .even false u (u.log2 - 52)) 9218868437227405312 := by
    unfold RND Ieee.Format.nearest
    rw [if_neg h0]
    have hw : ∀ r, Ieee.double.word false r = r := fun r => rfl
    simp only [lp32D, bi32D, ir32D, hfr]
    rw [hw, hlast, e1, e2, e3, Nat.shiftLeft_zero]
  rw [hR] at hf ⊢
  exact near_coreD hk hk2 (cut_near u (u.log2 - 52)) hf (by omega)

def pwD (m : Nat) : Nat := (m - 51) * 4503599627370496

theorem V_pwD {m : Nat} (h1 : 52 ≤ m) (h2 : m ≤ 2097) : V32D (pwD m) = 2 ^ m := by
  unfold V32D pwD
  rw [Nat.mod_eq_of_lt (by omega), if_neg (by omega), show (m - 51) * 4503599627370496 % 4503599627370496 = 0 by omega, show (m - 51) * 4503599627370496 / 4503599627370496 - 1 = m - 52 by omega, Nat.add_zero, show (4503599627370496 : Nat) = 2 ^ 52 from rfl, ← Nat.pow_add, show 52 + (m - 52) = m by omega]

theorem RN_pwD {m s : Nat} (h1 : 52 ≤ m) (h2 : m ≤ 2097) : RND (2 ^ (m + s)) (-1074 - (s : Int)) = pwD m := by
  rw [Nat.pow_add, RN_scaleD, ← V_pwD h1 h2]
  have hb : bdD (pwD m) (m - 51) := by unfold bdD pwD; omega
  by_cases e : m = 52
  · subst e; decide
  · rw [RN_VD hb (by omega) (by omega)]
    exact Nat.mod_eq_of_lt (by unfold pwD; omega)

theorem RN_geD {u m s : Nat} (h1 : 52 ≤ m) (h2 : m ≤ 2097) (h : 2 ^ (m + s) ≤ u) : pwD m ≤ RND u (-1074 - (s : Int)) := by
  rw [← RN_pwD (s := s) h1 h2]; exact RN_monoD h
theorem RN_leD {u m s : Nat} (h1 : 52 ≤ m) (h2 : m ≤ 2097) (h : u ≤ 2 ^ (m + s)) : RND u (-1074 - (s : Int)) ≤ pwD m := by
  rw [← RN_pwD (s := s) h1 h2]; exact RN_monoD h

theorem read_posD {x : Nat} (h : x ≤ 9214364837600034816) : ∃ m i, Ieee.double.read x = .number false m (-1074 + ((i : Nat) : Int)) ∧ V32D x = m * 2 ^ i := by
  have hb : bdD x 2046 := by unfold bdD; omega
  obtain ⟨m, i, e, v⟩ := read_VD hb (by omega) (by omega)
  have : (x / 9223372036854775808 % 2 == 1) = false := by rw [Nat.div_eq_of_lt (by omega)]; rfl
  rw [this] at e
  exact ⟨m, i, e, v⟩

theorem add_valD {x y : Nat} (hx : x ≤ 9214364837600034816) (hy : y ≤ 9214364837600034816) : fop .add .f64 x y = RND (V32D x + V32D y) (-1074) := by
  refine add_nnD (a := 2046) (by unfold bdD; omega) (by unfold bdD; omega) (by omega) (by omega) (by unfold pos32D; omega) (by unfold nnD; omega)

theorem add_rgD {b x y : Nat} (hx : x ≤ 9214364837600034816) (hy : y ≤ 9214364837600034816) (hb : 52 ≤ b) (hb2 : b ≤ 2095) (h1 : V32D x ≤ 2 ^ b) (h2 : V32D y ≤ 2 ^ b) :
    fop .add .f64 x y ≤ 9214364837600034816 ∧ V32D (fop .add .f64 x y) ≤ 2 ^ (b + 1) ∧ Near 1 (V32D (fop .add .f64 x y)) (V32D x + V32D y) ∧ x ≤ fop .add .f64 x y ∧ y ≤ fop .add .f64 x y := by
  rw [add_valD hx hy]
  have e0 : (-1074 : Int) = -1074 - ((0 : Nat) : Int) := by omega
  have hle : RND (V32D x + V32D y) (-1074) ≤ pwD (b + 1) := by
    rw [e0]
    exact RN_leD (by omega) (by omega) (by rw [Nat.add_zero, Nat.pow_succ]; omega)
  have hpw : pwD (b + 1) ≤ 9214364837600034816 := by unfold pwD; omega
  have hx2 : x = RND (V32D x) (-1074) := by rw [RN_VD (K := 2046) (by unfold bdD; omega) (by omega) (by omega), Nat.mod_eq_of_lt (by omega)]
  have hy2 : y = RND (V32D y) (-1074) := by rw [RN_VD (K := 2046) (by unfold bdD; omega) (by omega) (by omega), Nat.mod_eq_of_lt (by omega)]
  refine ⟨by omega, ?_, ?_, ?_, ?_⟩
  · rw [← V_pwD (m := b + 1) (by omega) (by omega)]; exact V_monoD (by omega) (by omega) hle
  · by_cases hs : 2 ^ (52 + 0) ≤ V32D x + V32D y
    · have := RN_nearD (s := 0) hs (by rw [← e0]; omega)
      rw [← e0, Nat.pow_zero, Nat.mul_one] at this
      exact this
    · have hs : V32D x + V32D y < 4503599627370496 := by
        have : (2 : Nat) ^ (52 + 0) = 4503599627370496 := by decide
        omega
      have hv : V32D (V32D x + V32D y) = V32D x + V32D y := by
        have : V32D (V32D x + V32D y) = if (V32D x + V32D y) % 9223372036854775808 < 4503599627370496 then (V32D x + V32D y) % 9223372036854775808 else (4503599627370496 + (V32D x + V32D y) % 9223372036854775808 % 4503599627370496) * 2 ^ ((V32D x + V32D y) % 9223372036854775808 / 4503599627370496 - 1) := rfl
        rw [this, Nat.mod_eq_of_lt (by omega), if_pos hs]
      have := RN_VD (x := V32D x + V32D y) (K := 2) (by unfold bdD; omega) (by omega) (by omega)
      rw [hv, Nat.mod_eq_of_lt (by omega)] at this
      rw [this, hv]
      exact Near.refl _ _
  · conv => lhs; rw [hx2]
    exact RN_monoD (by omega)
  · conv => lhs; rw [hy2]
    exact RN_monoD (by omega)

theorem mul_valD {x y : Nat} (hx : x ≤ 9214364837600034816) (hy : y ≤ 9214364837600034816) : fop .mul .f64 x y = RND (V32D x * V32D y) (-1074 - ((1074 : Nat) : Int)) := by
  obtain ⟨m, i, e1, v1⟩ := read_posD hx
  obtain ⟨n, j, e2, v2⟩ := read_posD hy
  have e3 : floatBits .mul .f64 x y = some (RND (m * n) (-2148 + ((i + j : Nat) : Int))) := by
    show Ieee.double.mul x y = _
    unfold Ieee.Format.mul
    rw [e1, e2]
    show some (Ieee.double.nearest _ (m * n) (-1074 + (i : Int) + (-1074 + (j : Int)))) = _
    rw [show -1074 + (i : Int) + (-1074 + (j : Int)) = -2148 + ((i + j : Nat) : Int) by omega]
    rfl
  unfold fop
  rw [e3]
  simp only
  rw [canon_RND, v1, v2]
  have := RN_scaleD (m * n) (i + j) (-2148 + ((i + j : Nat) : Int))
  rw [show -2148 + ((i + j : Nat) : Int) - ((i + j : Nat) : Int) = -1074 - ((1074 : Nat) : Int) by omega] at this
  rw [← this]
  congr 1
  rw [Nat.pow_add]; ac_rfl

theorem scaled_minD {m n i j : Nat} : (m * 2 ^ (-1074 + (i : Int) - min (-1074 + (i : Int)) (-1074 + (j : Int))).toNat ≤ n * 2 ^ (-1074 + (j : Int) - min (-1074 + (i : Int)) (-1074 + (j : Int))).toNat) ↔ m * 2 ^ i ≤ n * 2 ^ j := by
  rw [show (-1074 + (i : Int) - min (-1074 + (i : Int)) (-1074 + (j : Int))).toNat = i - min i j by omega, show (-1074 + (j : Int) - min (-1074 + (i : Int)) (-1074 + (j : Int))).toNat = j - min i j by omega]
  exact scaled_le

theorem order_VD {x y : Nat} (hx : x ≤ 9214364837600034816) (hy : y ≤ 9214364837600034816) : Ieee.double.order x y = some (compare ((V32D x : Nat) : Int) ((V32D y : Nat) : Int)) := by
  obtain ⟨m, i, e1, v1⟩ := read_posD hx
  obtain ⟨n, j, e2, v2⟩ := read_posD hy
  have : Ieee.double.order x y = some (compare (Ieee.signed false m (-1074 + (i : Int) - min (-1074 + (i : Int)) (-1074 + (j : Int))).toNat) (Ieee.signed false n (-1074 + (j : Int) - min (-1074 + (i : Int)) (-1074 + (j : Int))).toNat)) := by
    show Ieee.Datum.order (Ieee.double.read x) (Ieee.double.read y) = _
    rw [e1, e2]; rfl
  rw [this, signed_false, signed_false]
  have h1 := scaled_minD (m := m) (n := n) (i := i) (j := j)
  have h2 := scaled_minD (m := n) (n := m) (i := j) (j := i)
  rw [Int.min_comm] at h2
  rw [← v1, ← v2] at h1 h2
  generalize m * 2 ^ (-1074 + (i : Int) - min (-1074 + (i : Int)) (-1074 + (j : Int))).toNat = A at *
  generalize n * 2 ^ (-1074 + (j : Int) - min (-1074 + (i : Int)) (-1074 + (j : Int))).toNat = B at *
  have hlt : A < B ↔ V32D x < V32D y := by rw [← Nat.not_le, ← Nat.not_le]; exact not_congr h2
  have heq : A = B ↔ V32D x = V32D y := ⟨fun h => Nat.le_antisymm (h1.1 (Nat.le_of_eq h)) (h2.1 (Nat.le_of_eq h.symm)), fun h => Nat.le_antisymm (h1.2 (Nat.le_of_eq h)) (h2.2 (Nat.le_of_eq h.symm))⟩
  simp only [compare, compareOfLessAndEq, Int.ofNat_lt, Int.ofNat_inj, hlt, heq]

theorem fle_VD {x y : Nat} (hx : x ≤ 9214364837600034816) (hy : y ≤ 9214364837600034816) : fle .f64 x y = decide (V32D x ≤ V32D y) := by
  show (Ieee.double.order x y == some .lt || Ieee.double.order x y == some .eq) = _
  rw [order_VD hx hy, cmp_le, decide_eq_decide]; omega
theorem nearest_negD (mag : Nat) (p : Int) : Ieee.double.nearest true mag p % 9223372036854775808 = RND mag p := by
  have hr := RN_posD mag p
  unfold RND Ieee.Format.nearest at *
  by_cases h0 : mag = 0
  · rw [if_pos h0, if_pos h0]; decide
  · rw [if_neg h0] at hr ⊢
    rw [if_neg h0]
    have hw : ∀ r, Ieee.double.word false r = r := fun r => rfl
    simp only [ir32D, hw] at hr ⊢
    rw [word_mod32D (Nat.min_le_right _ _)]
    simp only [cut_full]

theorem sub_smallD {x y c : Nat} (hx : x ≤ 9214364837600034816) (hy : y ≤ 9214364837600034816) (hc : c ≤ 9214364837600034816) (h1 : V32D x ≤ V32D y + V32D c) (h2 : V32D y ≤ V32D x + V32D c) : (fop .sub .f64 x y) % 9223372036854775808 ≤ c := by
  obtain ⟨m, i, e1, v1⟩ := read_posD hx
  obtain ⟨n, j, e2, v2⟩ := read_posD hy
  have hcc : RND (V32D c) (-1074) = c := by rw [RN_VD (K := 2046) (by unfold bdD; omega) (by omega) (by omega), Nat.mod_eq_of_lt (by omega)]
  rw [sub_readD e1 e2]
  simp only [Bool.not_false, signed_false, signed_true]
  have hmin : min (-1074 + (i : Int)) (-1074 + (j : Int)) = -1074 + ((min i j : Nat) : Int) := by omega
  have e3 : (-1074 + (i : Int) - (-1074 + ((min i j : Nat) : Int))).toNat = i - min i j := by omega
  have e4 : (-1074 + (j : Int) - (-1074 + ((min i j : Nat) : Int))).toNat = j - min i j := by omega
  rw [hmin, e3, e4]
  have sA : V32D x = m * 2 ^ (i - min i j) * 2 ^ min i j := by rw [v1, Nat.mul_assoc, ← Nat.pow_add, show i - min i j + min i j = i by omega]
  have sB : V32D y = n * 2 ^ (j - min i j) * 2 ^ min i j := by rw [v2, Nat.mul_assoc, ← Nat.pow_add, show j - min i j + min i j = j by omega]
  generalize m * 2 ^ (i - min i j) = A at *
  generalize n * 2 ^ (j - min i j) = B at *
  have key : ∀ d : Nat, d * 2 ^ min i j ≤ V32D c → RND d (-1074 + ((min i j : Nat) : Int)) ≤ c := fun d hd => by
    have := RN_scaleD d (min i j) (-1074 + ((min i j : Nat) : Int))
    rw [show -1074 + ((min i j : Nat) : Int) - ((min i j : Nat) : Int) = -1074 by omega] at this
    rw [← this]
    exact Nat.le_trans (RN_monoD hd) (Nat.le_of_eq hcc)
  have hd : (((A : Nat) : Int) + -((B : Nat) : Int)).natAbs * 2 ^ min i j ≤ V32D c := by
    by_cases hab : B ≤ A
    · rw [show (((A : Nat) : Int) + -((B : Nat) : Int)).natAbs = A - B by omega, Nat.sub_mul]; omega
    · rw [show (((A : Nat) : Int) + -((B : Nat) : Int)).natAbs = B - A by omega, Nat.sub_mul]; omega
  have hk := key _ hd
  generalize (((A : Nat) : Int) + -((B : Nat) : Int)).natAbs = D at *
  rw [canon_bdD (nearest_le255D _ _ _) (Nat.le_refl _)]
  cases (if ((A : Nat) : Int) + -((B : Nat) : Int) = 0 then false && true else decide (((A : Nat) : Int) + -((B : Nat) : Int) < 0)) with
  | false =>
    show RND D _ % 9223372036854775808 ≤ c
    have := RN_posD D (-1074 + ((min i j : Nat) : Int))
    rw [Nat.mod_eq_of_lt (by omega)]; exact hk
  | true => rw [nearest_negD]; exact hk

theorem small_orderD {z c : Nat} (hz : z % 9223372036854775808 ≤ c) (hc : c ≤ 9214364837600034816) : fle .f64 z c = true ∧ fge .f64 z (9223372036854775808 + c) = true := by
  have hb : bdD z 2046 := by unfold bdD; omega
  obtain ⟨m, i, e1, v1⟩ := read_VD hb (by omega) (by omega)
  obtain ⟨n, j, e2, v2⟩ := read_posD hc
  have hbc : bdD (9223372036854775808 + c) 2046 := by unfold bdD; omega
  obtain ⟨n', j', e3, v3⟩ := read_VD hbc (by omega) (by omega)
  have hs : ((9223372036854775808 + c) / 9223372036854775808 % 2 == 1) = true := by
    have : (9223372036854775808 + c) / 9223372036854775808 = 1 := by omega
    rw [this]; rfl
  rw [hs] at e3
  have hV : V32D z ≤ V32D c := by
    have : V32D z = V32D (z % 9223372036854775808) := V_modD (Nat.mod_mod _ _).symm
    rw [this]
    exact V_monoD (Nat.mod_lt _ (by omega)) (by omega) hz
  have hVc : V32D (9223372036854775808 + c) = V32D c := V_modD (by omega)
  constructor
  · rw [fle_numD e1 e2]
    refine decide_eq_true ?_
    have h1 := scaled_minD (m := m) (n := n) (i := i) (j := j)
    rw [← v1, ← v2] at h1
    have h1 := h1.2 hV
    cases (z / 9223372036854775808 % 2 == 1) with
    | false => rw [signed_false, signed_false]; omega
    | true => rw [signed_true, signed_false]; omega
  · rw [fge_numD e1 e3]
    refine decide_eq_true ?_
    have h1 := scaled_minD (m := m) (n := n') (i := i) (j := j')
    rw [← v1, ← v3, hVc] at h1
    have h1 := h1.2 hV
    cases (z / 9223372036854775808 % 2 == 1) with
    | false => rw [signed_false, signed_true]; omega
    | true => rw [signed_true, signed_true]; omega

end Go.Proofs


/-
  Floats of 32 bits as floats of 64; gaps.
-/
namespace Go.Proofs
open Go.Ide Go.IntWalk

theorem conv_val {x k : Nat} (hk : k = 925) (hx : x ≤ 2130706432) : fconv .f32 .f64 x = RND (V32 x * 2 ^ k) (-1074) := by
  obtain ⟨m, i, e, v⟩ := read_pos hx
  have h1 : fconv .f32 .f64 x = RND m (-149 + (i : Int)) := by
    unfold fconv
    rw [if_neg (by decide)]
    have e' : FloatKind.decode .f32 x = .number false m (-149 + (i : Int)) := e
    rw [e']
    show fcanon .f64 (Ieee.double.nearest false m (-149 + (i : Int))) = _
    exact canon_bdD (nearest_le255D _ _ _) (Nat.le_refl _)
  rw [h1, v]
  have := RN_scaleD m (i + k) (-149 + (i : Int))
  rw [show -149 + (i : Int) - ((i + k : Nat) : Int) = -1074 by omega, Nat.pow_add, ← Nat.mul_assoc] at this
  exact this.symm

theorem RND_zero (u : Nat) : RND u (-1074) = RND u (-1074 - ((0 : Nat) : Int)) := by rw [show (-1074 : Int) - ((0 : Nat) : Int) = -1074 by omega]

theorem conv_ok {x k b : Nat} (hk : k = 925) (hx : x ≤ 2130706432) (hb : V32 x ≤ 2 ^ b) (hb2 : b ≤ 276) : fconv .f32 .f64 x ≤ 9214364837600034816 ∧ V32D (fconv .f32 .f64 x) ≤ 2 ^ (b + k) ∧ Near 1 (V32D (fconv .f32 .f64 x)) (V32 x * 2 ^ k) := by
  rw [conv_val hk hx]
  have hle : RND (V32 x * 2 ^ k) (-1074) ≤ pwD (b + k) := by
    rw [RND_zero]
    refine RN_leD (by omega) (by omega) ?_
    rw [Nat.add_zero, Nat.pow_add]
    exact Nat.mul_le_mul_right _ hb
  have hpw : pwD (b + k) ≤ 9214364837600034816 := by unfold pwD; omega
  refine ⟨by omega, ?_, ?_⟩
  · rw [← V_pwD (m := b + k) (by omega) (by omega)]
    exact V_monoD (by omega) (by omega) hle
  · by_cases h0 : V32 x = 0
    · rw [h0, Nat.zero_mul, RN_zeroD]
      exact Near.of_eq (by unfold V32D; decide)
    · have h1 : 2 ^ (52 + 0) ≤ V32 x * 2 ^ k := by
        have : 2 ^ 52 ≤ 2 ^ k := Nat.pow_le_pow_right (by omega) (by omega)
        have h2 : 1 * 2 ^ k ≤ V32 x * 2 ^ k := Nat.mul_le_mul_right _ (by omega)
        rw [Nat.one_mul] at h2
        exact Nat.le_trans this h2
      have := RN_nearD (s := 0) h1 (by rw [← RND_zero]; omega)
      rw [← RND_zero, Nat.pow_zero, Nat.mul_one] at this
      exact this

theorem V_zeroD : V32D 0 = 0 := by unfold V32D; decide

theorem sum_okD {f t : Nat → Nat} {b : Nat} (hb : 52 ≤ b) (h0 : f 0 = 0) (hs : ∀ p, f (p + 1) = fop .add .f64 (f p) (t p)) : ∀ n, (∀ p, p < n → t p ≤ 9214364837600034816 ∧ V32D (t p) ≤ 2 ^ b) → b + n ≤ 2095 →
    f n ≤ 9214364837600034816 ∧ V32D (f n) ≤ 2 ^ (b + n) ∧ Near n (V32D (f n)) (sumN (fun p => V32D (t p)) n)
  | 0, _, _ => by
    rw [h0, V_zeroD]
    exact ⟨by omega, Nat.zero_le _, Near.refl _ _⟩
  | n + 1, ht, hn => by
    obtain ⟨h1, h2, h3⟩ := sum_okD hb h0 hs n (fun p hp => ht p (by omega)) (by omega)
    obtain ⟨x1, x2⟩ := ht n (by omega)
    obtain ⟨q1, q2, q3, _, _⟩ := add_rgD (b := b + n) h1 x1 (by omega) (by omega) h2 (Nat.le_trans x2 (Nat.pow_le_pow_right (by omega) (by omega)))
    rw [hs]
    refine ⟨q1, q2, ?_⟩
    have := q3.trans (h3.add (Near.refl n (V32D (t n))))
    rw [Nat.add_comm 1 n] at this
    exact this

theorem V_strictD {x y : Nat} (hx : x ≤ 9214364837600034816) (hy : y ≤ 9214364837600034816) (h : x < y) : V32D x < V32D y := by
  refine Nat.lt_of_le_of_ne (V_monoD (by omega) (by omega) (Nat.le_of_lt h)) fun e => ?_
  have h1 := RN_VD (x := x) (K := 2046) (by unfold bdD; omega) (by omega) (by omega)
  have h2 := RN_VD (x := y) (K := 2046) (by unfold bdD; omega) (by omega) (by omega)
  rw [e, h2, Nat.mod_eq_of_lt (by omega), Nat.mod_eq_of_lt (by omega)] at h1
  omega

theorem order_le {z c : Nat} (h : fle .f64 z c = true) : fgt .f64 z c = false := by
  unfold fle at h
  unfold fgt
  generalize FloatKind.f64.format.order z c = r at *
  cases r with
  | none => rfl
  | some o =>
    cases o with
    | lt => rfl
    | eq => rfl
    | gt => exact absurd h (by decide)

theorem order_lt {z c d : Nat} (hz : z % 9223372036854775808 ≤ c) (hcd : c < d) (hd : d ≤ 9214364837600034816) : flt .f64 z d = true := by
  have hb : bdD z 2046 := by unfold bdD; omega
  obtain ⟨m, i, e1, v1⟩ := read_VD hb (by omega) (by omega)
  obtain ⟨n, j, e2, v2⟩ := read_posD hd
  have hV : V32D z < V32D d := by
    have e : V32D z = V32D (z % 9223372036854775808) := V_modD (Nat.mod_mod _ _).symm
    rw [e]
    exact Nat.lt_of_le_of_lt (V_monoD (Nat.mod_lt _ (by omega)) (by omega) hz) (V_strictD (by omega) hd hcd)
  rw [flt_numD e1 e2]
  refine decide_eq_true ?_
  have h1 := scaled_minD (m := n) (n := m) (i := j) (j := i)
  rw [Int.min_comm, ← v1, ← v2] at h1
  have h1 := mt h1.1 (Nat.not_le.2 hV)
  cases (z / 9223372036854775808 % 2 == 1) with
  | false => rw [signed_false, signed_false]; omega
  | true => rw [signed_true, signed_false]; omega

theorem m63 : 4562254508917369339 < 9223372036854775808 := by omega
theorem pw_milli {k : Nat} (hk : k = 925) : pwD (139 + k) ≤ 4562254508917369339 := by subst hk; decide

theorem gap_small {x y k j : Nat} (hk : k = 925) (hx : x ≤ 9214364837600034816) (hy : y ≤ 9214364837600034816) (h : Near j (V32D x) (V32D y)) (hj : j ≤ 200) (hyb : V32D y ≤ 4 * (2 ^ 149 * 2 ^ k)) :
    ∃ z, laws_b10Gap x y = some z ∧ fgt .f64 z 4562254508917369340 = false ∧ flt .f64 z 4562254508917369340 = true := by
  have h1 := h.le hj
  have h2 := h.symm.le hj
  have hc : 2 ^ 139 * 2 ^ k ≤ V32D (4562254508917369339) := by
    rw [← Nat.pow_add, ← V_pwD (m := 139 + k) (by omega) (by omega)]
    have hp := pw_milli hk
    exact V_monoD (Nat.lt_of_le_of_lt hp m63) m63 hp
  have e : (2 : Nat) ^ 149 = 1024 * 2 ^ 139 := by decide
  rw [e] at hyb
  have hd : V32D x ≤ V32D y + V32D (4562254508917369339) ∧ V32D y ≤ V32D x + V32D (4562254508917369339) := by
    generalize V32D (4562254508917369339) = C at *
    generalize V32D x = X at *
    generalize V32D y = Y at *
    rw [Nat.mul_assoc] at hyb
    generalize 2 ^ 139 * 2 ^ k = Q at *
    omega
  have hs1 := sub_smallD hx hy (c := 4562254508917369339) (by omega) hd.1 hd.2
  have hs2 := sub_smallD hy hx (c := 4562254508917369339) (by omega) hd.2 hd.1
  unfold laws_b10Gap
  cases flt .f64 x y with
  | true => exact ⟨_, rfl, order_le (small_orderD (Nat.le_trans hs2 (by omega)) (by omega)).1, order_lt hs2 (by omega) (by omega)⟩
  | false => exact ⟨_, rfl, order_le (small_orderD (Nat.le_trans hs1 (by omega)) (by omega)).1, order_lt hs1 (by omega) (by omega)⟩

end Go.Proofs


/-
  The best hidden states: no others are likelier.
-/
namespace Go.Proofs
open Go.Ide Go.IntWalk

theorem mul_monoV {x y z : Nat} (hx : x ≤ 2130706432) (hy : y ≤ 2130706432) (hz : z ≤ 2130706432) (h : V32 x ≤ V32 y) : V32 (fop .mul .f32 x z) ≤ V32 (fop .mul .f32 y z) := by
  rw [mul_val hx hz, mul_val hy hz]
  have h1 := RN_pos (V32 x * V32 z) (-149 - ((149 : Nat) : Int))
  have h2 := RN_pos (V32 y * V32 z) (-149 - ((149 : Nat) : Int))
  exact V_mono (by omega) (by omega) (RN_mono (Nat.mul_le_mul_right _ h))

section
variable {a b : Nat} {fs ss hs : List Nat}

def hidC (a b : Nat) (fs ss hs : List Nat) (w s : List Int) (i : Nat) : Nat := forS (hidStep a b ss hs w s) i 0 (fs.getD (s.getD 0 0).toNat 0)

theorem forS_snoc {σ : Type} (g : Nat → σ → σ) : ∀ (k i : Nat) (s : σ), forS g (k + 1) i s = g (i + k) (forS g k i s)
  | 0, i, s => rfl
  | k + 1, i, s => by
    rw [forS, forS_snoc g k (i + 1) (g i s), forS, show i + 1 + k = i + (k + 1) by omega]

theorem hidC_succ (w s : List Int) (i : Nat) : hidC a b fs ss hs w s (i + 1) = hidStep a b ss hs w s i (hidC a b fs ss hs w s i) := by
  unfold hidC
  rw [forS_snoc, Nat.zero_add]

theorem implHidC {w s : List Int} (m : Model a b fs ss hs) (h1 : okMWord (a : Int) (b : Int) fs ss hs w = true) (h2 : okStates (a : Int) w s = true) (hwl : w.length ≤ 12) (hw : Letters b w) : impl_HiddenChance ((a : Int), (b : Int), fs, ss, hs) w s = some (hidC a b fs ss hs w s w.length, true) := by
  have hk2 := m.k2
  have hn2 := m.n2
  obtain ⟨hl, hst⟩ := states_of m.n1 m.n2 hwl h2
  obtain ⟨p0, hp0, hp02⟩ := hst 0 (by omega)
  have hlf := m.lf
  have hls := m.ls
  have hlh := m.lh
  have i1 : (0 : Int) ≤ 0 ∧ (0 : Int) < lenI s := ⟨by omega, by simp only [lenI]; omega⟩
  have i2 := idxN (i := p0) (n := fs.length) (by omega)
  unfold impl_HiddenChance
  simp only [implMWord (w := w) (by omega), implMStates (s := s) (by omega), h1, h2, Option.bind_some, Bool.not_true, cond_false, Int.toNat_zero, hp0, Int.toNat_natCast]
  rw [guard_pos i1, guard_pos i2]
  have r2 := rounds_forS (f := impl_HiddenChance_B1 ((a : Int), (b : Int), fs, ss, hs) w s) (fun i x => (x, ((i : Nat) : Int))) (hidStep a b ss hs w s) id (n := w.length) (fun _ x => bd x 127)
    (fun i x hi hx => ⟨by
      obtain ⟨c, hc, hc2⟩ := hw i hi
      obtain ⟨p, hp, hp2⟩ := hst i (by omega)
      obtain ⟨q, hq, hq2⟩ := hst (i + 1) (by omega)
      obtain ⟨e1, e2⟩ := cellM (a := a) (b := b) (by omega) (by omega) hp2 hc2
      obtain ⟨e3, e4⟩ := cellM (a := a) (b := a) (by omega) (by omega) hp2 hq2
      have j1 := idxN (i := i) (n := s.length) (by omega)
      have j2 := idxN (i := i + 1) (n := s.length) (by omega)
      have j3 := idxN (i := p * b + c) (n := hs.length) (by omega)
      have j4 := idxN (i := p * a + q) (n := ss.length) (by omega)
      unfold impl_HiddenChance_B1 impl_Model_show impl_Model_step hidStep
      simp only [ltN hi, cond_true, Int.toNat_natCast, nextN hi (show w.length ≤ 4294967296 by omega), hc, hp, hq, e1, e3]
      rw [guard_pos (idxN hi), guard_pos j1, guard_pos j3, Option.bind_some, guard_pos j2, guard_pos j4, Option.bind_some], hid_bd m hw hst hl hi hx⟩)
    (fun x _ => by
      unfold impl_HiddenChance_B1
      simp only [geN (Nat.le_refl _), cond_false]; rfl) w.length 0 (fs.getD p0 0) (by omega) (m.sf p0 hp02)
  simp only [Int.natCast_zero] at r2
  rw [r2.1]
  simp only [id, Option.bind_some, finite_bd r2.2 (by omega) (by omega)]
  unfold hidC
  rw [hp0, Int.toNat_natCast]

theorem hidC_rg (d : Drawn a b fs ss hs) {w s : List Int} (hw : Letters b w) (hs' : Letters a s) (hl : s.length = w.length + 1) (hn : w.length ≤ 6) : ∀ i, i ≤ w.length → Rg (143 - 12 * i) 149 (hidC a b fs ss hs w s i)
  | 0, _ => by
    obtain ⟨p, hp, hp2⟩ := hs' 0 (by omega)
    show Rg 143 149 (fs.getD (s.getD 0 0).toNat 0)
    rw [hp, Int.toNat_natCast]
    exact d.ef p hp2
  | i + 1, hi => by
    obtain ⟨c, hc, hc2⟩ := hw i (by omega)
    obtain ⟨p, hp, hp2⟩ := hs' i (by omega)
    obtain ⟨q, hq, hq2⟩ := hs' (i + 1) (by omega)
    have ih := hidC_rg d hw hs' hl hn i (by omega)
    rw [hidC_succ]
    unfold hidStep
    rw [hc, hp, hq]
    simp only [Int.toNat_natCast]
    have m1 := (mul_rg ih (d.eh p c hp2 hc2) (by omega) (by omega) (by omega) (by omega)).1
    have m2 := (mul_rg m1 (d.es p q hp2 hq2) (by omega) (by omega) (by omega) (by omega)).1
    exact m2.mono (by omega) (by omega)

theorem bestF_rg {row : List Nat} {c j lo hi : Nat} : ∀ n, (∀ p, p < n → Rg lo hi (bestT a b ss hs row c j p)) → 1 ≤ n →
    (bestF a b ss hs row c j n).1 < n ∧ (bestF a b ss hs row c j n).2 = bestT a b ss hs row c j (bestF a b ss hs row c j n).1 ∧ ∀ p, p < n → V32 (bestT a b ss hs row c j p) ≤ V32 (bestF a b ss hs row c j n).2
  | n + 1, h, _ => by
    rw [bestF]
    by_cases h0 : n = 0
    · subst h0
      refine ⟨by simp, by simp, fun p hp => ?_⟩
      have : p = 0 := by omega
      subst this
      simp
    · obtain ⟨i1, i2, i3⟩ := bestF_rg n (fun p hp => h p (by omega)) (by omega)
      have hn : (n == 0) = false := by simpa using h0
      have hr := (h n (by omega)).fin
      have hc := (h _ (show (bestF a b ss hs row c j n).1 < n + 1 by omega)).fin
      rw [← i2] at hc
      rw [hn, Bool.false_or, fgt_V hr hc]
      by_cases hgt : V32 (bestF a b ss hs row c j n).2 < V32 (bestT a b ss hs row c j n)
      · rw [decide_eq_true hgt]
        refine ⟨Nat.lt_succ_self _, rfl, fun p hp => ?_⟩
        by_cases e : p = n
        · subst e; exact Nat.le_refl _
        · exact Nat.le_trans (i3 p (by omega)) (Nat.le_of_lt hgt)
      · rw [decide_eq_false hgt]
        refine ⟨by show (bestF a b ss hs row c j n).1 < n + 1; omega, i2, fun p hp => ?_⟩
        by_cases e : p = n
        · subst e; exact Nat.le_of_not_lt hgt
        · exact i3 p (by omega)

theorem best_row (d : Drawn a b fs ss hs) {row : List Nat} {c lo : Nat} (hc : c < b) (hr : RowRg a lo 149 row) (h1 : 39 ≤ lo) (h2 : lo ≤ 149) : ∀ j, j < a →
    (bestF a b ss hs row c j a).1 < a ∧ (bestRow a b ss hs row c).getD j 0 = bestT a b ss hs row c j (bestF a b ss hs row c j a).1 ∧ Rg (lo - 12) 149 ((bestRow a b ss hs row c).getD j 0) ∧ ∀ p, p < a → V32 (bestT a b ss hs row c j p) ≤ V32 ((bestRow a b ss hs row c).getD j 0) := fun j hj => by
  have ht : ∀ p, p < a → Rg (lo - 12) 149 (bestT a b ss hs row c j p) := fun p hp => by
    have m1 := (mul_rg (hr p hp) (d.eh p c hp hc) (by omega) (by omega) (by omega) (by omega)).1
    have m2 := (mul_rg m1 (d.es p j hp hj) (by omega) (by omega) (by omega) (by omega)).1
    exact m2.mono (by omega) (by omega)
  obtain ⟨q1, q2, q3⟩ := bestF_rg a ht d.m.n1
  have hg : (bestRow a b ss hs row c).getD j 0 = (bestF a b ss hs row c j a).2 := by
    unfold bestRow
    rw [List.getD_eq_getElem?_getD, List.getElem?_map, List.getElem?_range hj]; rfl
  rw [hg]
  exact ⟨q1, q2, by rw [q2]; exact ht _ q1, q3⟩

theorem bestAt_rg (d : Drawn a b fs ss hs) {w : List Int} (hw : Letters b w) (hn : w.length ≤ 6) : ∀ i, i ≤ w.length → RowRg a (143 - 12 * i) 149 (bestAt a b fs ss hs w i)
  | 0, _ => fun i hi => d.ef i hi
  | i + 1, hi => fun j hj => by
    obtain ⟨c, hc, hc2⟩ := hw i (by omega)
    rw [bestAt, hc, Int.toNat_natCast]
    exact ((best_row d hc2 (bestAt_rg d hw hn i (by omega)) (by omega) (by omega) j hj).2.2.1).mono (by omega) (by omega)

theorem hid_le (d : Drawn a b fs ss hs) {w s : List Int} (hw : Letters b w) (hs' : Letters a s) (hl : s.length = w.length + 1) (hn : w.length ≤ 6) : ∀ i, i ≤ w.length → V32 (hidC a b fs ss hs w s i) ≤ V32 ((bestAt a b fs ss hs w i).getD (s.getD i 0).toNat 0)
  | 0, _ => Nat.le_refl _
  | i + 1, hi => by
    obtain ⟨c, hc, hc2⟩ := hw i (by omega)
    obtain ⟨p, hp, hp2⟩ := hs' i (by omega)
    obtain ⟨q, hq, hq2⟩ := hs' (i + 1) (by omega)
    have ih := hid_le d hw hs' hl hn i (by omega)
    have hr := bestAt_rg d hw hn i (by omega)
    rw [hp, Int.toNat_natCast] at ih
    rw [hidC_succ, bestAt, hc, Int.toNat_natCast, hq, Int.toNat_natCast]
    unfold hidStep
    rw [hc, hp, hq]
    simp only [Int.toNat_natCast]
    refine Nat.le_trans ?_ ((best_row d hc2 hr (by omega) (by omega) q hq2).2.2.2 p hp2)
    unfold bestT
    have r1 := hidC_rg d hw hs' hl hn i (by omega)
    have e1 := d.eh p c hp2 hc2
    have e2 := d.es p q hp2 hq2
    have m1 := (mul_rg r1 e1 (by omega) (by omega) (by omega) (by omega)).1
    have m2 := (mul_rg (hr p hp2) e1 (by omega) (by omega) (by omega) (by omega)).1
    exact mul_monoV m1.fin m2.fin e2.fin (mul_monoV r1.fin (hr p hp2).fin e1.fin ih)

theorem argF_max {row : List Nat} {lo hi : Nat} : ∀ n, (∀ i, i < n → Rg lo hi (row.getD i 0)) → 1 ≤ n → argF row n < n ∧ ∀ i, i < n → V32 (row.getD i 0) ≤ V32 (row.getD (argF row n) 0)
  | n + 1, h, _ => by
    rw [argF]
    by_cases h0 : n = 0
    · subst h0
      have e : argF row 0 = 0 := rfl
      rw [e]
      have hz : (bif fgt .f32 (row.getD 0 0) (row.getD 0 0) then 0 else 0) = 0 := by cases fgt .f32 (row.getD 0 0) (row.getD 0 0) <;> rfl
      rw [hz]
      refine ⟨by omega, fun i hi => ?_⟩
      have : i = 0 := by omega
      subst this
      exact Nat.le_refl _
    · obtain ⟨i1, i2⟩ := argF_max n (fun i hi => h i (by omega)) (by omega)
      rw [fgt_V (h n (by omega)).fin (h _ (show argF row n < n + 1 by omega)).fin]
      by_cases hgt : V32 (row.getD (argF row n) 0) < V32 (row.getD n 0)
      · rw [decide_eq_true hgt]
        refine ⟨Nat.lt_succ_self _, fun i hi => ?_⟩
        by_cases e : i = n
        · subst e; exact Nat.le_refl _
        · exact Nat.le_trans (i2 i (by omega)) (Nat.le_of_lt hgt)
      · rw [decide_eq_false hgt]
        refine ⟨by show argF row n < n + 1; omega, fun i hi => ?_⟩
        by_cases e : i = n
        · subst e; exact Nat.le_of_not_lt hgt
        · exact i2 i (by omega)

def bestW (a b : Nat) (fs ss hs : List Nat) (w : List Int) : List Int :=
  wayP ((List.range w.length).map (backAt a b fs ss hs w)) w.length (argF (bestAt a b fs ss hs w w.length) a) (w.length + 1)

theorem backs_of {w : List Int} (m : Model a b fs ss hs) (hw : Letters b w) : Backs a w.length ((List.range w.length).map (backAt a b fs ss hs w)) := by
  refine ⟨by simp, fun i hi => ?_⟩
  have e : ((List.range w.length).map (backAt a b fs ss hs w)).getD i [] = backAt a b fs ss hs w i := by
    simp [List.getD_eq_getElem?_getD, hi]
  rw [e]
  exact backAt_ok m hw hi

theorem implBest {w : List Int} (d : Drawn a b fs ss hs) (h1 : okMWord (a : Int) (b : Int) fs ss hs w = true) (hwl : w.length ≤ 12) (hw : Letters b w) :
    impl_BestHidden ((a : Int), (b : Int), fs, ss, hs) w = some (bestW a b fs ss hs w, (bestAt a b fs ss hs w w.length).getD (argF (bestAt a b fs ss hs w w.length) a) 0, true) := by
  have m := d.m
  have hn1 := m.n1
  have hn2 := m.n2
  have hlf := m.lf
  have hlen := bestAt_len m w w.length
  have hcl : slices_Clone fs = some fs := by
    unfold slices_Clone
    rw [guard_pos (by simp only [appMax]; omega)]
  have hz : argF (bestAt a b fs ss hs w w.length) a < a := argF_lt hn1 a (Nat.le_refl _)
  have hbk := backs_of m hw
  have eb := implArg (row := bestAt a b fs ss hs w w.length) (bs := (List.range w.length).map (backAt a b fs ss hs w)) (by omega) (by omega)
  rw [hlen] at eb
  have hbz := bestAt_bd m hw w.length (Nat.le_refl _) _ hz
  unfold impl_BestHidden bestW
  generalize argF (bestAt a b fs ss hs w w.length) a = z at *
  have e1 : wadd .i64 (lenI w) 1 = ((w.length + 1 : Nat) : Int) := by simp only [lenI]; rw [waddI (by omega)]; omega
  have e2 : wsub .i64 (lenI w) 1 = (w.length : Int) - 1 := by simp only [lenI]; rw [wsubI (by omega)]
  have e3 : (lenI w).toNat = w.length := by simp [lenI]
  have w2 := implWay (row := bestAt a b fs ss hs w w.length) hbk hz hwl
  have e4 : (List.replicate (w.length + 1) (0 : Int)).set w.length (z : Int) = wayP ((List.range w.length).map (backAt a b fs ss hs w)) w.length z 1 := by
    have := wayP_set (bs := (List.range w.length).map (backAt a b fs ss hs w)) (n := w.length) (z := z) (i := 0) (by omega)
    rw [Nat.sub_zero] at this
    rw [← this]
    simp [wayP, stAt]
  have i1 : (0 : Int) ≤ ((w.length + 1 : Nat) : Int) ∧ ((w.length + 1 : Nat) : Int) ≤ 4294967296 := by omega
  have i2 : (0 : Int) ≤ (z : Int) ∧ (z : Int) < lenI (bestAt a b fs ss hs w w.length) := by simp only [lenI]; omega
  have i3 : (0 : Int) ≤ lenI w ∧ lenI w < lenI (List.replicate (w.length + 1) (0 : Int)) := by simp only [lenI, List.length_replicate]; omega
  have hfin : impl_IsFinite ((bestAt a b fs ss hs w w.length).getD z 0) = some true := by
    unfold impl_IsFinite
    rw [sub_self32 hbz (by omega) (by omega)]
    rfl
  have hl0 : (lenI w) = (w.length : Int) := rfl
  simp only [implMWord (w := w) (by omega), h1, Option.bind_some, Bool.not_true, cond_false, implBestRows m hw hwl, hcl, eb, e1, e2, e3, Int.toNat_natCast, guard_pos i1, guard_pos i2, guard_pos i3, e4, w2, hfin]

theorem bestW_len {w : List Int} : (bestW a b fs ss hs w).length = w.length + 1 := wayP_len (Nat.le_refl _)

theorem bestW_get {w : List Int} {i : Nat} (hi : i ≤ w.length) : (bestW a b fs ss hs w).getD i 0 = (stAt ((List.range w.length).map (backAt a b fs ss hs w)) w.length (argF (bestAt a b fs ss hs w w.length) a) (w.length - i) : Int) := by
  unfold bestW wayP
  rw [show w.length + 1 - (w.length + 1) = 0 by omega, List.replicate_zero, List.nil_append, List.getD_eq_getElem?_getD, List.getElem?_map, List.getElem?_range (by omega)]
  show ((stAt _ _ _ (w.length + 1 - 1 - i) : Nat) : Int) = _
  rw [show w.length + 1 - 1 - i = w.length - i by omega]

theorem best_eq (d : Drawn a b fs ss hs) {w : List Int} (hw : Letters b w) (hn : w.length ≤ 6) : ∀ i, i ≤ w.length → hidC a b fs ss hs w (bestW a b fs ss hs w) i = (bestAt a b fs ss hs w i).getD (stAt ((List.range w.length).map (backAt a b fs ss hs w)) w.length (argF (bestAt a b fs ss hs w w.length) a) (w.length - i)) 0
  | 0, _ => by
    show fs.getD ((bestW a b fs ss hs w).getD 0 0).toNat 0 = _
    rw [bestW_get (Nat.zero_le _), Int.toNat_natCast]; rfl
  | i + 1, hi => by
    obtain ⟨c, hc, hc2⟩ := hw i (by omega)
    have ih := best_eq d hw hn i (by omega)
    have hz : argF (bestAt a b fs ss hs w w.length) a < a := argF_lt d.m.n1 a (Nat.le_refl _)
    have hbk := backs_of d.m hw
    have hq := stAt_lt hbk hz (w.length - (i + 1)) (by omega)
    have hst := stAt_step hbk hz (j := w.length - (i + 1)) (by omega)
    rw [show w.length - 1 - (w.length - (i + 1)) = i by omega, show w.length - (i + 1) + 1 = w.length - i by omega] at hst
    have e : ((List.range w.length).map (backAt a b fs ss hs w)).getD i [] = backAt a b fs ss hs w i := by
      simp [List.getD_eq_getElem?_getD, show i < w.length by omega]
    rw [e] at hst
    have hr := bestAt_rg d hw hn i (by omega)
    rw [hidC_succ, ih]
    unfold hidStep
    rw [bestW_get (show i ≤ w.length by omega), bestW_get hi, hc]
    simp only [Int.toNat_natCast]
    generalize stAt ((List.range w.length).map (backAt a b fs ss hs w)) w.length (argF (bestAt a b fs ss hs w w.length) a) (w.length - (i + 1)) = q at *
    generalize stAt ((List.range w.length).map (backAt a b fs ss hs w)) w.length (argF (bestAt a b fs ss hs w w.length) a) (w.length - i) = p at *
    have hp : p = (bestF a b ss hs (bestAt a b fs ss hs w i) c q a).1 := by
      unfold backAt bestBack at hst
      rw [hc, Int.toNat_natCast, List.getD_eq_getElem?_getD, List.getElem?_map, List.getElem?_range hq] at hst
      have hst : (((bestF a b ss hs (bestAt a b fs ss hs w i) c q a).1 : Nat) : Int) = (p : Int) := hst
      omega
    rw [bestAt, hc, Int.toNat_natCast, (best_row d hc2 hr (by omega) (by omega) q hq).2.1, ← hp]
    rfl

end
end Go.Proofs


/-
  What the law says of hidden states.
-/
namespace Go.Proofs
open Go.Ide Go.IntWalk

section
variable {a b : Nat} {fs ss hs : List Nat}

theorem hiddenAt_val {w : List Int} {t : Nat} (m : Model a b fs ss hs) (h1 : okMWord (a : Int) (b : Int) fs ss hs w = true) (hwl : w.length ≤ 12) (hw : Letters b w) (ht : t ≤ w.length) :
    impl_HiddenAt ((a : Int), (b : Int), fs, ss, hs) w (t : Int) = some (shF (hidF a (rowAt a b fs ss hs w t) (rowE a b ss hs w (w.length - t)))) := by
  have hin : (decide ((t : Int) ≥ 0) && decide ((t : Int) ≤ lenI w)) = true := by simp [lenI]; omega
  have j1 := rowsF_i (a := a) (b := b) (fs := fs) (ss := ss) (hs := hs) ht
  have j2 := rowsB_i (a := a) (b := b) (ss := ss) (hs := hs) ht
  have e1 : (rowsF a b fs ss hs w).getD t [] = rowAt a b fs ss hs w t := by
    unfold rowsF
    rw [List.getD_eq_getElem?_getD, List.getElem?_map, List.getElem?_range (by omega)]; rfl
  have e2 := rowsB_get (a := a) (b := b) (ss := ss) (hs := hs) (w := w) (i := t) (by omega)
  unfold impl_HiddenAt
  simp only [implMWord (w := w) (by omega), h1, within64, hin, Option.bind_some, Bool.not_true, cond_false, implForward m hw hwl, implBack m hw hwl, guard_pos j1, guard_pos j2, Int.toNat_natCast, e1, e2, implHid m.n2 (rowAt_len m w t) (rowE_len w _)]

theorem pairAt_val {w : List Int} {t c : Nat} (m : Model a b fs ss hs) (h1 : okMWord (a : Int) (b : Int) fs ss hs w = true) (hwl : w.length ≤ 12) (hw : Letters b w) (ht : t < w.length) (hc : w.getD t 0 = (c : Int)) (hcb : c < b) :
    impl_PairAt ((a : Int), (b : Int), fs, ss, hs) w (t : Int) = some (shF (pairF a b ss hs (rowAt a b fs ss hs w t) (rowE a b ss hs w (w.length - (t + 1))) c a)) := by
  have hin : (decide ((t : Int) ≥ 0) && decide ((t : Int) ≤ wsub .i64 (lenI w) 1)) = true := by
    simp only [lenI]
    rw [wsubI (by omega)]
    simp; omega
  have j1 := rowsF_i (a := a) (b := b) (fs := fs) (ss := ss) (hs := hs) (show t ≤ w.length by omega)
  have hn := nextN ht (show w.length ≤ 4294967296 by omega)
  have j2 := rowsB_i (a := a) (b := b) (ss := ss) (hs := hs) (show t + 1 ≤ w.length by omega)
  have j3 : (0 : Int) ≤ (t : Int) ∧ (t : Int) < lenI w := idxN ht
  have e1 : (rowsF a b fs ss hs w).getD t [] = rowAt a b fs ss hs w t := by
    unfold rowsF
    rw [List.getD_eq_getElem?_getD, List.getElem?_map, List.getElem?_range (by omega)]; rfl
  have e2 := rowsB_get (a := a) (b := b) (ss := ss) (hs := hs) (w := w) (i := t + 1) (by omega)
  unfold impl_PairAt
  simp only [implMWord (w := w) (by omega), h1, within64, hin, Option.bind_some, Bool.not_true, cond_false, implForward m hw hwl, implBack m hw hwl, guard_pos j1, hn, guard_pos j2, guard_pos j3, Int.toNat_natCast, e1, e2, hc, implPair m (rowAt_len m w t) (rowE_len w _) hcb]

end

def sD (t : Nat → Nat) : Nat → Nat
  | 0 => 0
  | n + 1 => fop .add .f64 (sD t n) (t n)

section
variable {k : Nat} (hk : k = 925)
include hk

theorem V_oneD : V32D 4607182418800017408 = 2 ^ (149 + k) := by
  have := V_pwD (m := 149 + k) (by omega) (by omega)
  have e : pwD (149 + k) = 4607182418800017408 := by subst hk; decide
  exact e ▸ this

theorem V_twoD : V32D 4611686018427387904 = 2 ^ (150 + k) := by
  have := V_pwD (m := 150 + k) (by omega) (by omega)
  have e : pwD (150 + k) = 4611686018427387904 := by subst hk; decide
  exact e ▸ this

theorem conv_lo {x : Nat} (hx : Rg 71 149 x) : pwD (71 + k) ≤ fconv .f32 .f64 x := by
  rw [conv_val hk hx.fin, RND_zero]
  refine RN_geD (by omega) (by omega) ?_
  rw [Nat.add_zero, Nat.pow_add]
  exact Nat.mul_le_mul_right _ hx.lo

theorem pw_fin : pwD (149 + k) ≤ 9214364837600034816 ∧ pwD (150 + k) ≤ 9214364837600034816 ∧ pwD (139 + k) ≤ 4562254508917369340 ∧ 4562254508917369340 ≤ pwD (149 + k) ∧ 0 < pwD (71 + k) ∧ 0 < pwD (2 * k + 210 - 1074) := by
  subst hk; decide

theorem milli_pos {x : Nat} (hx : Rg 71 149 x) : flt .f64 0 (fop .mul .f64 4562254508917369340 (fconv .f32 .f64 x)) = true := by
  obtain ⟨p1, p2, p3, p4, p5, p6⟩ := pw_fin hk
  obtain ⟨q1, q2, q3⟩ := conv_ok hk hx.fin hx.hi (by omega)
  have lo := conv_lo hk hx
  rw [mul_valD (by omega) q1]
  have hC : 2 ^ (139 + k) ≤ V32D 4562254508917369340 := by
    rw [← V_pwD (m := 139 + k) (by omega) (by omega)]
    exact V_monoD (by omega) (by omega) p3
  have hC2 : V32D 4562254508917369340 ≤ 2 ^ (149 + k) := by
    rw [← V_pwD (m := 149 + k) (by omega) (by omega)]
    exact V_monoD (by omega) (by omega) p4
  have hX : 2 ^ (71 + k) ≤ V32D (fconv .f32 .f64 x) := by
    rw [← V_pwD (m := 71 + k) (by omega) (by omega)]
    exact V_monoD (by omega) (by omega) lo
  have h1 := RN_geD (u := V32D 4562254508917369340 * V32D (fconv .f32 .f64 x)) (m := 2 * k + 210 - 1074) (s := 1074) (by omega) (by omega) (by
    refine Nat.le_trans ?_ (Nat.mul_le_mul hC hX)
    rw [← Nat.pow_add]
    exact Nat.pow_le_pow_right (by omega) (by omega))
  have h2 := RN_leD (u := V32D 4562254508917369340 * V32D (fconv .f32 .f64 x)) (m := 149 + k) (s := 1074) (by omega) (by omega) (by
    refine Nat.le_trans (Nat.mul_le_mul hC2 q2) ?_
    rw [← Nat.pow_add]
    exact Nat.pow_le_pow_right (by omega) (by omega))
  exact order_lt (z := 0) (c := 0) (by omega) (by omega) (by omega)

theorem more_le {x y : Nat} (hx : Rg 71 149 x) (hy : Rg 71 149 y) (h : V32 y ≤ V32 x) : fle .f64 (fconv .f32 .f64 y) (fop .mul .f64 (fconv .f32 .f64 x) 4607186922399644778) = true := by
  obtain ⟨p1, p2, p3, p4, p5, p6⟩ := pw_fin hk
  obtain ⟨q1, q2, q3⟩ := conv_ok hk hx.fin hx.hi (by omega)
  obtain ⟨r1, r2, r3⟩ := conv_ok hk hy.fin hy.hi (by omega)
  rw [mul_valD q1 (by omega)]
  have hD : 2 ^ (149 + k) ≤ V32D 4607186922399644778 := by
    rw [← V_oneD hk]
    exact V_monoD (by omega) (by omega) (by omega)
  have hD2 : V32D 4607186922399644778 ≤ 2 ^ (150 + k) := by
    rw [← V_twoD hk]
    exact V_monoD (by omega) (by omega) (by omega)
  have h2 := RN_leD (u := V32D (fconv .f32 .f64 x) * V32D 4607186922399644778) (m := 150 + k) (s := 1074) (by omega) (by omega) (by
    refine Nat.le_trans (Nat.mul_le_mul q2 hD2) ?_
    rw [← Nat.pow_add]
    exact Nat.pow_le_pow_right (by omega) (by omega))
  have h3 : fconv .f32 .f64 x ≤ RND (V32D (fconv .f32 .f64 x) * V32D 4607186922399644778) (-1074 - ((1074 : Nat) : Int)) := by
    have e1 := RN_VD (x := fconv .f32 .f64 x) (K := 2046) (by unfold bdD; omega) (by omega) (by omega)
    rw [Nat.mod_eq_of_lt (by omega)] at e1
    have e2 := RN_scaleD (V32D (fconv .f32 .f64 x)) (149 + k) (-1074)
    rw [show ((149 + k : Nat) : Int) = ((1074 : Nat) : Int) by omega, e1] at e2
    conv => lhs; rw [← e2]
    exact RN_monoD (Nat.mul_le_mul_left _ hD)
  have h4 : fconv .f32 .f64 y ≤ fconv .f32 .f64 x := by
    rw [conv_val hk hy.fin, conv_val hk hx.fin]
    exact RN_monoD (Nat.mul_le_mul_right _ h)
  rw [fle_VD r1 (by omega)]
  exact decide_eq_true (V_monoD (by omega) (by omega) (Nat.le_trans h4 h3))

theorem gap_self {x : Nat} (hx : x ≤ 1065353216) : laws_b10Gap (fconv .f32 .f64 x) (fconv .f32 .f64 x) = some 0 := by
  obtain ⟨q1, _, _⟩ := conv_ok hk (show x ≤ 2130706432 by omega) (b := 149) (by rw [← V_one]; exact V_mono (by omega) (by omega) hx) (by omega)
  have hs := sub_self32D (x := fconv .f32 .f64 x) (K := 2046) (by unfold bdD; omega) (by omega) (by omega)
  unfold laws_b10Gap
  cases flt .f64 (fconv .f32 .f64 x) (fconv .f32 .f64 x) <;> simp only [cond_true, cond_false, hs]

end
end Go.Proofs


/-
  What the law says of hidden states: the whole.
-/
namespace Go.Proofs
open Go.Ide Go.IntWalk

theorem sums_ok {a k : Nat} (hk : k = 925) (a4 : a ≤ 4) {hq pq : List Nat} (h1 : ∀ i, i < a → hq.getD i 0 ≤ 1065353216) (h2 : ∀ i j, i < a → j < a → pq.getD (i * a + j) 0 ≤ 1065353216)
    (h3 : ∀ i, i < a → Near 60 (sumN (fun j => V32 (pq.getD (i * a + j) 0)) a) (V32 (hq.getD i 0))) (h4 : Near 10 (sumN (fun i => V32 (hq.getD i 0)) a) (2 ^ 149)) :
    (∀ i, i < a → ∃ z, laws_b10Gap (sD (fun j => fconv .f32 .f64 (pq.getD (i * a + j) 0)) a) (fconv .f32 .f64 (hq.getD i 0)) = some z ∧ fgt .f64 z 4562254508917369340 = false) ∧
    ∃ z, laws_b10Gap (sD (fun i => sD (fun j => fconv .f32 .f64 (pq.getD (i * a + j) 0)) a) a) 4607182418800017408 = some z ∧ flt .f64 z 4562254508917369340 = true := by
  have hone : ∀ x, x ≤ 1065353216 → V32 x ≤ 2 ^ 149 := fun x hx => by rw [← V_one]; exact V_mono (by omega) (by omega) hx
  have hrow : ∀ i, i < a → sD (fun j => fconv .f32 .f64 (pq.getD (i * a + j) 0)) a ≤ 9214364837600034816 ∧ V32D (sD (fun j => fconv .f32 .f64 (pq.getD (i * a + j) 0)) a) ≤ 2 ^ (149 + k + a) ∧ Near 70 (V32D (sD (fun j => fconv .f32 .f64 (pq.getD (i * a + j) 0)) a)) (V32 (hq.getD i 0) * 2 ^ k) := fun i hi => by
    have hc := fun j (hj : j < a) => conv_ok hk (show pq.getD (i * a + j) 0 ≤ 2130706432 by have := h2 i j hi hj; omega) (hone _ (h2 i j hi hj)) (by omega)
    obtain ⟨q1, q2, q3⟩ := sum_okD (f := sD (fun j => fconv .f32 .f64 (pq.getD (i * a + j) 0))) (t := fun j => fconv .f32 .f64 (pq.getD (i * a + j) 0)) (b := 149 + k) (by omega) rfl (fun p => rfl) a (fun j hj => ⟨(hc j hj).1, (hc j hj).2.1⟩) (by omega)
    refine ⟨q1, q2, ?_⟩
    have n1 := near_sum a fun j hj => (hc j hj).2.2
    have n2 := (h3 i hi).mulr (2 ^ k)
    rw [sumN_mul] at n2
    exact ((q3.trans n1).trans n2).mono (by omega)
  refine ⟨fun i hi => ?_, ?_⟩
  · obtain ⟨r1, r2, r3⟩ := hrow i hi
    obtain ⟨c1, c2, c3⟩ := conv_ok hk (show hq.getD i 0 ≤ 2130706432 by have := h1 i hi; omega) (hone _ (h1 i hi)) (by omega)
    obtain ⟨z, e, f1, _⟩ := gap_small (j := 71) hk r1 c1 ((r3.trans c3.symm).mono (by omega)) (by omega) (by
      rw [Nat.pow_add] at c2
      exact Nat.le_trans c2 (Nat.le_mul_of_pos_left _ (by omega)))
    exact ⟨z, e, f1⟩
  · obtain ⟨q1, q2, q3⟩ := sum_okD (f := sD (fun i => sD (fun j => fconv .f32 .f64 (pq.getD (i * a + j) 0)) a)) (t := fun i => sD (fun j => fconv .f32 .f64 (pq.getD (i * a + j) 0)) a) (b := 149 + k + a) (by omega) rfl (fun p => rfl) a (fun i hi => ⟨(hrow i hi).1, (hrow i hi).2.1⟩) (by omega)
    have n1 := near_sum a fun i hi => (hrow i hi).2.2
    have n2 := h4.mulr (2 ^ k)
    rw [sumN_mul, ← Nat.pow_add, ← V_oneD hk] at n2
    obtain ⟨z, e, _, f2⟩ := gap_small (j := 90) hk q1 (y := 4607182418800017408) (by omega) (((q3.trans n1).trans n2).mono (by omega)) (by omega) (by
      rw [V_oneD hk, Nat.pow_add]
      exact Nat.le_mul_of_pos_left _ (by omega))
    exact ⟨z, e, f2⟩

theorem FnHidden_law (x0 x1 : List Int) (w0 : WfD (.sl (.int .u8)) x0) (w1 : WfD (.sl (.int .u8)) x1) : laws_FnHidden x0 x1 = some true := by
  unfold laws_FnHidden laws_b10Long
  by_cases c0 : lenI x0 > (1048576 : Int)
  · simp only [c0, decide_true, cond_true, Option.bind_some]
  · by_cases c1 : lenI x1 > (1048576 : Int)
    · simp only [c0, c1, decide_true, decide_false, cond_true, cond_false, Option.bind_some]
    · simp only [c0, c1, decide_false, cond_false, Option.bind_some]
      have b0 := bytesI_wf w0 (by simp only [lenI] at c0; omega)
      have b1 := bytesI_wf w1 (by simp only [lenI] at c1; omega)
      obtain ⟨y4, e4, p1, p2⟩ := b10At_ok b1 (i := 0) (n := 2) (by omega)
      obtain ⟨b, hb, b2, b3⟩ : ∃ b : Nat, wadd .i64 (2 : Int) y4 = (b : Int) ∧ 2 ≤ b ∧ b ≤ 3 := ⟨(2 + y4).toNat, by rw [waddI (by omega)]; omega, by omega, by omega⟩
      obtain ⟨a, fs, ss, hs, eM, d⟩ := drawModel b0 (b := b) (by omega) (by omega)
      obtain ⟨y8, e8, q1, q2⟩ := b10At_ok b1 (i := 1) (n := 6) (by omega)
      obtain ⟨n, hn, n1, n6⟩ : ∃ n : Nat, wadd .i64 (1 : Int) y8 = (n : Int) ∧ 1 ≤ n ∧ n ≤ 6 := ⟨(1 + y8).toNat, by rw [waddI (by omega)]; omega, by omega, by omega⟩
      obtain ⟨w, eW, lW, hW⟩ := drawWord (c := b) (k := n) (by omega) (by omega) b1
      obtain ⟨y12, e12, r1, r2⟩ := b10At_ok b1 (i := 2) (n := (n : Int)) (by omega)
      obtain ⟨t, rfl⟩ : ∃ t : Nat, y12 = (t : Int) := ⟨y12.toNat, by omega⟩
      have ht : t < w.length := by omega
      obtain ⟨c, hc, hcb⟩ := hW t ht
      have m := d.m
      have a1 := m.n1
      have a4 := d.a4
      have haa : a * a ≤ 4 * 4 := Nat.mul_le_mul a4 a4
      have hok : okMWord (a : Int) (b : Int) fs ss hs w = true := by
        unfold okMWord
        rw [d.ok, wsubI (by omega)]
        simp only [Bool.true_and, Bool.and_eq_true, decide_eq_true_eq, lenI]
        refine ⟨allIn_iff.2 fun i hi => ?_, by omega⟩
        obtain ⟨x, hx, hx2⟩ := hW i hi
        omega
      obtain ⟨hq, pq, u1, u2, lq, lp, g1, g2, g3, g4⟩ := hid_pair d hW (by omega) ht hc hcb
      have eH := hiddenAt_val m hok (by omega) hW (Nat.le_of_lt ht)
      have eP := pairAt_val m hok (by omega) hW ht hc hcb
      rw [u1] at eH
      rw [u2] at eP
      have eB := implBest d hok (by omega) hW
      obtain ⟨s1, z2, s2, s3⟩ := sums_ok rfl a4 g1 g2 g3 g4
      have d1 : (lenI hq != (a : Int)) = false := by simp only [lenI, lq, bne_self_eq_false]
      have d2 : (lenI pq != wmul .i64 (a : Int) (a : Int)) = false := by
        rw [wmulI (by rw [← Int.natCast_mul]; omega), ← Int.natCast_mul]
        simp only [lenI, lp, bne_self_eq_false]
      have hbw := bestW_len (a := a) (b := b) (fs := fs) (ss := ss) (hs := hs) (w := w)
      have hn1 : wadd .i64 (n : Int) 1 = ((n + 1 : Nat) : Int) := by rw [waddI (by omega)]; omega
      have d3 : (lenI (bestW a b fs ss hs w) != ((n + 1 : Nat) : Int)) = false := by simp only [lenI, hbw, lW, bne_self_eq_false]
      simp only [e4, hb, eM, e8, hn, eW, e12, eH, eP, eB, hn1, d1, d2, d3, Option.bind_some, Bool.not_true, cond_false]
      -- the sums
      have hB2 : ∀ i, i < a → ∀ acc : Nat, rounds (laws_FnHidden_B2 ((a : Int), (b : Int), fs, ss, hs) (pq, true) (acc, (i : Int))) ((0 : Nat), (0 : Int)) = some (sD (fun j => fconv .f32 .f64 (pq.getD (i * a + j) 0)) a) := fun i hi acc => by
        have := rounds_forS (f := laws_FnHidden_B2 ((a : Int), (b : Int), fs, ss, hs) (pq, true) (acc, (i : Int))) (fun j (s : Nat) => (s, ((j : Nat) : Int))) (fun j s => fop .add .f64 s (fconv .f32 .f64 (pq.getD (i * a + j) 0))) id (n := a) (fun j s => s = sD (fun j => fconv .f32 .f64 (pq.getD (i * a + j) 0)) j)
          (fun j s hj hs0 => ⟨by
            obtain ⟨x1, x2⟩ := cellM (a := a) (b := a) (by omega) (by omega) hi hj
            have jj := idxN (i := i * a + j) (n := pq.length) (by omega)
            unfold laws_FnHidden_B2
            simp only [ltN hj, cond_true, x1, Int.toNat_natCast, nextN hj (show a ≤ 4294967296 by omega)]
            rw [guard_pos jj], by rw [hs0]; rfl⟩)
          (fun s _ => by
            unfold laws_FnHidden_B2
            simp only [geN (Nat.le_refl _), cond_false]; rfl) a 0 0 (by omega) rfl
        simp only [Int.natCast_zero] at this
        rw [this.1, this.2]; rfl
      have hB3 := rounds_forS (f := laws_FnHidden_B3 ((a : Int), (b : Int), fs, ss, hs) (hq, true) (pq, true)) (fun i (s : Nat) => (s, ((i : Nat) : Int))) (fun i s => fop .add .f64 s (sD (fun j => fconv .f32 .f64 (pq.getD (i * a + j) 0)) a)) (fun s => (.inl s : Nat ⊕ Unit)) (n := a) (fun i s => s = sD (fun i => sD (fun j => fconv .f32 .f64 (pq.getD (i * a + j) 0)) a) i)
        (fun i s hi hs0 => ⟨by
          obtain ⟨z, ez, fz⟩ := s1 i hi
          have jj := idxN (i := i) (n := hq.length) (by omega)
          unfold laws_FnHidden_B3
          simp only [ltN hi, cond_true, hB2 i hi, Option.bind_some, Int.toNat_natCast, nextN hi (show a ≤ 4294967296 by omega)]
          rw [guard_pos jj]
          simp only [ez, Option.bind_some, fz, cond_false], by rw [hs0]; rfl⟩)
        (fun s _ => by
          unfold laws_FnHidden_B3
          simp only [geN (Nat.le_refl _), cond_false]) a 0 0 (by omega) rfl
      simp only [Int.natCast_zero] at hB3
      rw [hB3.1, hB3.2]
      simp only [Option.bind_some]
      -- other states
      obtain ⟨r, er, lr, hr⟩ := rounds_inv (f := laws_FnHidden_B1 x1 ((a : Int), (b : Int), fs, ss, hs) y8) (fun mm st => ∃ (i : Nat) (s : List Int), mm + i = n + 1 ∧ st = ((i : Int), s) ∧ s.length = i ∧ Letters a s) (fun r => r.length = n + 1 ∧ Letters a r) (by
        rintro mm st ⟨i, s, hm, rfl, hl, hs'⟩
        unfold laws_FnHidden_B1
        rw [hn]
        by_cases hi : i ≤ n
        · have hd : decide ((i : Int) ≤ (n : Int)) = true := decide_eq_true (by omega)
          have h3 : wadd .i64 (3 : Int) (i : Int) = 3 + (i : Int) := waddI (by omega)
          obtain ⟨x, ex, x1', x2'⟩ := b10At_ok b1 (i := 3 + (i : Int)) (n := (a : Int)) (by omega)
          simp only [hd, cond_true, h3, ex, Option.bind_some, nextN (show i < n + 1 by omega) (show n + 1 ≤ 4294967296 by omega)]
          rw [guard_pos (by simp only [List.length_singleton, appMax]; omega)]
          refine .inl ⟨mm - 1, _, by omega, rfl, i + 1, _, by omega, rfl, by simp; omega, fun j hj => ?_⟩
          rw [getD_app]
          split
          · rename_i h; exact hs' j h
          · have : j - s.length = 0 := by simp at hj; omega
            rw [this]
            exact ⟨x.toNat, by show x = _; omega, by omega⟩
        · have hd : decide ((i : Int) ≤ (n : Int)) = false := decide_eq_false (by omega)
          simp only [hd, cond_false]
          exact .inr ⟨_, rfl, by omega, hs'⟩) (n + 1) ((0 : Int), ([] : List Int)) ⟨0, [], by omega, rfl, rfl, fun j hj => by simp at hj⟩
      have hokS : ∀ s : List Int, s.length = n + 1 → Letters a s → okStates (a : Int) w s = true := fun s hl hs' => by
        unfold okStates
        rw [wsubI (by omega), waddI (by simp only [lenI]; omega)]
        simp only [Bool.and_eq_true, beq_iff_eq, lenI]
        refine ⟨allIn_iff.2 fun i hi => ?_, by omega⟩
        obtain ⟨x, hx, hx2⟩ := hs' i hi
        omega
      have hzl : argF (bestAt a b fs ss hs w w.length) a < a := argF_lt a1 a (Nat.le_refl _)
      have hbwL : Letters a (bestW a b fs ss hs w) := fun i hi => by
        rw [hbw] at hi
        exact ⟨_, bestW_get (by omega), stAt_lt (backs_of m hW) hzl _ (by omega)⟩
      have eC1 := implHidC m hok (hokS _ (by omega) hbwL) (by omega) hW
      have eC2 := implHidC m hok (hokS _ lr hr) (by omega) hW
      have hbest := best_eq d hW (by omega) w.length (Nat.le_refl _)
      rw [Nat.sub_self] at hbest
      have hbest : hidC a b fs ss hs w (bestW a b fs ss hs w) w.length = (bestAt a b fs ss hs w w.length).getD (argF (bestAt a b fs ss hs w w.length) a) 0 := hbest
      rw [hbest] at eC1
      have hrg := bestAt_rg d hW (by omega) w.length (Nat.le_refl _)
      have hB := (hrg _ hzl).mono (c := 71) (d := 149) (by omega) (by omega)
      have hC := (hidC_rg d hW hr (by omega) (by omega) w.length (Nat.le_refl _)).mono (c := 71) (d := 149) (by omega) (by omega)
      have hle := hid_le d hW hr (by omega) (by omega) w.length (Nat.le_refl _)
      obtain ⟨st, hst, hst2⟩ := hr w.length (by omega)
      rw [hst, Int.toNat_natCast] at hle
      have hmx := (argF_max a (fun i hi => hrg i hi) a1).2 st hst2
      generalize (bestAt a b fs ss hs w w.length).getD (argF (bestAt a b fs ss hs w w.length) a) 0 = B at *
      generalize hidC a b fs ss hs w r w.length = C at *
      have hB1 : B ≤ 1065353216 := by
        refine Nat.le_of_not_lt fun hlt => ?_
        have h1 := RN_V (x := B) (K := 254) hB.bd (by omega) (by omega)
        have h2 := RN_mono (p := -149) (show V32 B ≤ V32 1065353216 by rw [V_one]; exact hB.hi)
        have h3 := RN_V (x := 1065353216) (K := 254) (by unfold bd; omega) (by omega) (by omega)
        have := hB.fin
        rw [h1, h3, Nat.mod_eq_of_lt (by omega), Nat.mod_eq_of_lt (by omega)] at h2
        omega
      have hpos : fgt .f32 C 0 = true := by
        rw [fgt_V hC.fin (by omega), V_zero]
        exact decide_eq_true (Nat.lt_of_lt_of_le (pow_pos2 71) hC.lo)
      simp only [er, eC1, eC2, Option.bind_some, cond_true, s2, s3, gap_self rfl hB1, milli_pos rfl hB, more_le rfl hB hC (Nat.le_trans hle hmx), hpos]

end Go.Proofs
