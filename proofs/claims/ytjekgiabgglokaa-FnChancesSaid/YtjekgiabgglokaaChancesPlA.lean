import Derived.Test.YtjekgiabgglokaaChancesGenB
set_option linter.unusedVariables false
set_option linter.unusedSimpArgs false
set_option linter.unusedSectionVars false

namespace Go.Proofs
open Go.Ide Go.IntWalk


end Go.Proofs


namespace Go.Proofs
open Go.Ide Go.IntWalk

theorem within64 (a b c : Int) : impl_within a b c = some (decide (a ≥ b) && decide (a ≤ c)) := by
 unfold impl_within
 cases h : decide (a ≥ b) <;> simp

def allIn (xs : List Int) (b c : Int) : Bool := xs.all fun x => decide (x ≥ b) && decide (x ≤ c)

theorem allIn_iff {xs : List Int} {b c : Int} : allIn xs b c = true ↔ ∀ i, i < xs.length → b ≤ xs.getD i 0 ∧ xs.getD i 0 ≤ c := by
 unfold allIn
 rw [List.all_eq_true]
 constructor
 ·intro h i hi
  have := h xs[i] (List.getElem_mem hi)
  simp only [Bool.and_eq_true, decide_eq_true_eq] at this
  rw [List.getD_eq_getElem?_getD, List.getElem?_eq_getElem hi]
  exact ⟨this.1, this.2⟩
 ·intro h x hx
  obtain ⟨i, hi, rfl⟩ := List.getElem_of_mem hx
  have := h i hi
  rw [List.getD_eq_getElem?_getD, List.getElem?_eq_getElem hi] at this
  simp only [Bool.and_eq_true, decide_eq_true_eq]
  exact ⟨this.1, this.2⟩

theorem allN_in (xs : List Int) (b c : Int) : allN (fun i => decide (xs.getD i 0 ≥ b) && decide (xs.getD i 0 ≤ c)) xs.length 0 = allIn xs b c := by
 rw [Bool.eq_iff_iff, allN_iff, allIn_iff]
 constructor
 ·intro h i hi
  have := h i (by omega) (by omega)
  simp only [Bool.and_eq_true, decide_eq_true_eq] at this
  exact ⟨this.1, this.2⟩
 ·intro h i _ hi
  have := h i (by omega)
  simp only [Bool.and_eq_true, decide_eq_true_eq]
  exact ⟨this.1, this.2⟩

theorem areWithin64 {xs : List Int} {b c : Int} (h : xs.length ≤ 4294967296) : impl_areWithin xs b c = some (allIn xs b c) := by
 unfold impl_areWithin
 have := rounds_all (f := impl_areWithin_B1 xs b c) (fun i => ((i : Nat) : Int)) (fun i => decide (xs.getD i 0 ≥ b) && decide (xs.getD i 0 ≤ c)) (Sum.inl ()) (Sum.inr ()) (n := xs.length) (fun i hi => by
  unfold impl_areWithin_B1
  simp only [ltN hi, cond_true, guard_pos (idxN hi), Int.toNat_natCast, within64, Option.bind_some, nextN hi h]
  cases (decide (xs.getD i 0 ≥ b) && decide (xs.getD i 0 ≤ c)) <;> rfl) (by
  unfold impl_areWithin_B1
  simp only [geN (Nat.le_refl _), cond_false]) xs.length 0 (by omega)
 rw [allN_in] at this
 simp only [Int.natCast_zero] at this
 simp only [this, Option.bind_some]
 cases allIn xs b c <;> rfl

theorem isWord64 {xs : List Int} {L : Int} (h : xs.length ≤ 4294967296) : impl_IsWord xs L = some ((decide (L ≥ 1) && decide (L ≤ 4)) && (decide (lenI xs ≤ 12) && allIn xs 0 (wsub .i64 L 1))) := by
 unfold impl_IsWord
 rw [within64, areWithin64 h]
 cases (decide (L ≥ 1) && decide (L ≤ 4)) <;> cases decide (lenI xs ≤ 12) <;> simp

def Letters (c : Nat) (xs : List Int) : Prop := ∀ i, i < xs.length → ∃ a : Nat, xs.getD i 0 = (a : Int) ∧ a < c

structure Plain (m c : Nat) (nx : List Int) (es : List Bool) : Prop where
 m1 : 1 ≤ m
 m2 : m ≤ 64
 c1 : 1 ≤ c
 c2 : c ≤ 4
 len : nx.length = m * c
 ends : es.length = m
 tos : ∀ i, i < m * c → ∃ t : Nat, nx.getD i 0 = (t : Int) ∧ t < m

section
variable {m c : Nat} {nx : List Int} {es : List Bool} (hp : Plain m c nx es)
include hp

end

end Go.Proofs


/-
 Models of chances: when they are valid.
-/
namespace Go.Proofs
open Go.Ide Go.IntWalk

def share (x : Nat) : Bool := fge .f32 x 0 && fle .f32 x 1065353216

theorem bd_share {x : Nat} (h : share x = true) : bd x 127 := by
 unfold share at h
 rw [Bool.and_eq_true] at h
 exact share_bd h.1 h.2

def nearOne (s : Nat) : Bool := fle .f32 (fop .sub .f32 s 1065353216) 981668463 && fge .f32 (fop .sub .f32 s 1065353216) 3129152111

theorem absOne (s : Nat) : (impl_absolute (fop .sub .f32 s 1065353216)).bind (fun y => some (fle .f32 y 981668463)) = some (nearOne s) := by
 unfold nearOne
 rw [near_abs (c := 981668463) (nc := 3129152111) (mc := 8388608 + 981668463 % 8388608) (pc := -149 + ((981668463 / 8388608 - 1 : Nat) : Int)) (by decide) (by decide)]
 unfold impl_absolute
 cases flt .f32 (fop .sub .f32 s 1065353216) 0 <;> rfl

def sumF (xs : List Nat) : Nat → Nat
 | 0 => 0
 | i + 1 => fop .add .f32 (sumF xs i) (xs.getD i 0)

def okRow (xs : List Nat) : Bool := allN (fun i => share (xs.getD i 0)) xs.length 0 && nearOne (sumF xs xs.length)

theorem implSum {xs : List Nat} (h : xs.length ≤ 4294967296) : impl_addUp xs = some (sumF xs xs.length) := by
 have := rounds_forS (f := impl_addUp_B1 xs) (fun i s => (s, ((i : Nat) : Int))) (fun i s => fop .add .f32 s (xs.getD i 0)) id (n := xs.length) (fun i s => s = sumF xs i)
  (fun i s hi hs => ⟨by
   unfold impl_addUp_B1
   simp only [ltN hi, cond_true, guard_pos (idxN hi), Int.toNat_natCast, nextN hi h], by rw [hs]; rfl⟩)
  (fun s hs => by
   unfold impl_addUp_B1
   simp only [geN (Nat.le_refl _), cond_false]; rfl) xs.length 0 0 (by omega) rfl
 unfold impl_addUp
 simp only [Int.natCast_zero] at this
 rw [this.1]
 simp only [id, Option.bind_some, this.2]

theorem implRow {xs : List Nat} (h : xs.length ≤ 4294967296) : impl_areChances xs = some (okRow xs) := by
 unfold impl_areChances okRow
 have := rounds_all (f := impl_areChances_B1 xs) (fun i => ((i : Nat) : Int)) (fun i => share (xs.getD i 0)) (Sum.inl ()) (Sum.inr ()) (n := xs.length) (fun i hi => by
  unfold impl_areChances_B1
  simp only [ltN hi, cond_true, guard_pos (idxN hi), Int.toNat_natCast, nextN hi h]
  unfold share
  cases fge .f32 (xs.getD i 0) 0 <;> cases fle .f32 (xs.getD i 0) 1065353216 <;> rfl) (by
  unfold impl_areChances_B1
  simp only [geN (Nat.le_refl _), cond_false]) xs.length 0 (by omega)
 simp only [Int.natCast_zero] at this
 rw [this]
 cases allN (fun i => share (xs.getD i 0)) xs.length 0 with
 | false => rfl
 | true =>
  simp only [cond_true, Option.bind_some, Bool.true_and, implSum h]
  exact absOne _

def rowF (xs : List Nat) (w i : Nat) : List Nat := (xs.drop (i * w)).take w

theorem rowF_len {xs : List Nat} {w i n : Nat} (h : xs.length = n * w) (hi : i < n) : (rowF xs w i).length = w := by
 have : (i + 1) * w ≤ n * w := Nat.mul_le_mul_right _ hi
 rw [Nat.succ_mul] at this
 unfold rowF
 simp; omega

theorem rowF_get {xs : List Nat} {w i n k : Nat} (h : xs.length = n * w) (hi : i < n) (hk : k < w) : (rowF xs w i).getD k 0 = xs.getD (i * w + k) 0 := by
 unfold rowF
 simp only [List.getD_eq_getElem?_getD]
 rw [List.getElem?_take_of_lt hk, List.getElem?_drop]

def okModel (n k : Int) (fs ss hs : List Nat) : Bool :=
 (decide (n ≥ 1) && decide (n ≤ 5)) && ((decide (k ≥ 1) && decide (k ≤ 4)) && ((lenI fs == n) && ((lenI ss == wmul .i64 n n) && ((lenI hs == wmul .i64 n k) && (okRow fs &&
  (allN (fun i => okRow (rowF ss n.toNat i)) n.toNat 0 && allN (fun i => okRow (rowF hs k.toNat i)) n.toNat 0))))))

theorem cutRow {xs : List Nat} {w n i : Nat} (hn : n ≤ 1000) (hw : w ≤ 1000) (hi : i < n) : cut xs (wmul .i64 (i : Int) (w : Int)) (wadd .i64 (wmul .i64 (i : Int) (w : Int)) (w : Int)) = rowF xs w i ∧
  wmul .i64 (i : Int) (w : Int) = ((i * w : Nat) : Int) ∧ wadd .i64 (wmul .i64 (i : Int) (w : Int)) (w : Int) = ((i * w + w : Nat) : Int) ∧ wmul .i64 (wadd .i64 (i : Int) 1) (w : Int) = ((i * w + w : Nat) : Int) := by
 have h1 : i * w ≤ 1000 * 1000 := Nat.mul_le_mul (by omega) hw
 have h2 : (i + 1) * w ≤ 1001 * 1000 := Nat.mul_le_mul (by omega) hw
 rw [Nat.succ_mul] at h2
 have e1 : wmul .i64 (i : Int) (w : Int) = ((i * w : Nat) : Int) := by rw [wmulI (by rw [← Int.natCast_mul]; omega), ← Int.natCast_mul]
 have e2 : wadd .i64 ((i * w : Nat) : Int) (w : Int) = ((i * w + w : Nat) : Int) := by rw [waddI (by omega)]; omega
 have e3 : wmul .i64 (wadd .i64 (i : Int) 1) (w : Int) = ((i * w + w : Nat) : Int) := by
  rw [waddI (by omega), show (i : Int) + 1 = ((i + 1 : Nat) : Int) by omega, wmulI (by rw [← Int.natCast_mul, Nat.succ_mul]; omega), ← Int.natCast_mul, Nat.succ_mul]
 refine ⟨?_, e1, by rw [e1, e2], e3⟩
 rw [e1, e2]
 unfold cut rowF
 simp only [Int.toNat_natCast]
 rw [show i * w + w - i * w = w by omega]

theorem row_in {xs : List Nat} {w n i : Nat} (h : xs.length = n * w) (hi : i < n) : i * w + w ≤ xs.length := by
 have : (i + 1) * w ≤ n * w := Nat.mul_le_mul_right _ hi
 rw [Nat.succ_mul] at this
 omega

theorem implRows {xs : List Nat} {n w : Nat} (hn : n ≤ 1000) (hw : w ≤ 1000) : impl_areRows xs (n : Int) (w : Int) = some ((lenI xs == wmul .i64 (n : Int) (w : Int)) && allN (fun i => okRow (rowF xs w i)) n 0) := by
 unfold impl_areRows
 have e : wmul .i64 (n : Int) (w : Int) = ((n * w : Nat) : Int) := by
  have : n * w ≤ 1000 * 1000 := Nat.mul_le_mul hn hw
  rw [wmulI (by rw [← Int.natCast_mul]; omega), ← Int.natCast_mul]
 cases hl : (lenI xs == wmul .i64 (n : Int) (w : Int)) with
 | false => simp [bne, hl]
 | true =>
  have hlen : xs.length = n * w := by
   rw [e] at hl
   have := eq_of_beq hl
   simp only [lenI] at this
   omega
  have := rounds_all (f := impl_areRows_B1 xs (n : Int) (w : Int)) (fun i => ((i : Nat) : Int)) (fun i => okRow (rowF xs w i)) (Sum.inl ()) (Sum.inr ()) (n := n) (fun i hi => by
   obtain ⟨c1, c2, c3, c4⟩ := cutRow (xs := xs) hn hw hi
   have hin := row_in hlen hi
   unfold impl_areRows_B1 impl_rowOf_float32
   rw [c3, c2] at c1
   simp only [ltN hi, cond_true, c2, c4, c1]
   rw [guard_pos ⟨by omega, by omega, by omega, by simp only [lenI]; omega⟩]
   have hr : (rowF xs w i).length ≤ 4294967296 := by rw [rowF_len hlen hi]; omega
   simp only [Option.bind_some, implRow hr, nextN hi (by omega)]
   cases okRow (rowF xs w i) <;> rfl) (by
   unfold impl_areRows_B1
   simp only [geN (Nat.le_refl _), cond_false]) n 0 (by omega)
  simp only [Int.natCast_zero] at this
  simp only [bne, hl, Bool.not_true, cond_false, this, Option.bind_some, Bool.true_and]
  cases allN (fun i => okRow (rowF xs w i)) n 0 <;> rfl

theorem rowF_all {xs : List Nat} {n : Nat} (h : xs.length = n) : rowF xs n 0 = xs := by
 unfold rowF
 rw [Nat.zero_mul, List.drop_zero, ← h, List.take_length]

theorem implModel {n k : Int} {fs ss hs : List Nat} : impl_ValidModel (n, k, fs, ss, hs) = some (okModel n k fs ss hs) := by
 unfold impl_ValidModel okModel
 simp only [within64, Option.bind_some]
 cases hn : (decide (n ≥ 1) && decide (n ≤ 5)) with
 | false => rfl
 | true =>
  cases hk : (decide (k ≥ 1) && decide (k ≤ 4)) with
  | false => rfl
  | true =>
   simp only [Bool.and_eq_true, decide_eq_true_eq] at hn hk
   obtain ⟨a, rfl⟩ : ∃ a : Nat, n = (a : Int) := ⟨n.toNat, by omega⟩
   obtain ⟨b, rfl⟩ : ∃ b : Nat, k = (b : Int) := ⟨k.toNat, by omega⟩
   have e1 := implRows (xs := fs) (n := 1) (w := a) (by omega) (by omega)
   have e0 : wmul .i64 ((1 : Nat) : Int) (a : Int) = (a : Int) := by rw [wmulI (by omega)]; omega
   rw [e0] at e1
   have e2 := implRows (xs := ss) (n := a) (w := a) (by omega) (by omega)
   have e3 := implRows (xs := hs) (n := a) (w := b) (by omega) (by omega)
   simp only [Int.natCast_one] at e1
   simp only [e1, e2, e3, cond_true, Option.bind_some, Int.toNat_natCast, Bool.true_and]
   have hr : lenI fs = (a : Int) → allN (fun i => okRow (rowF fs a i)) 1 0 = okRow fs := by
    intro h
    simp only [allN, Bool.and_true]
    rw [rowF_all (by simp only [lenI] at h; omega)]
   cases h1 : (lenI fs == (a : Int)) with
   | false => rfl
   | true =>
    rw [hr (eq_of_beq h1)]
    cases okRow fs <;> cases (lenI ss == wmul .i64 (a : Int) (a : Int)) <;> cases (lenI hs == wmul .i64 (a : Int) (b : Int)) <;> cases allN (fun i => okRow (rowF ss a i)) a 0 <;> cases allN (fun i => okRow (rowF hs b i)) a 0 <;> rfl

end Go.Proofs


/-
 Valid models and their words; HiddenChance.
-/
namespace Go.Proofs
open Go.Ide Go.IntWalk

structure Model (a b : Nat) (fs ss hs : List Nat) : Prop where
 n1 : 1 ≤ a
 n2 : a ≤ 5
 k1 : 1 ≤ b
 k2 : b ≤ 4
 lf : fs.length = a
 ls : ss.length = a * a
 lh : hs.length = a * b
 sf : ∀ i, i < a → bd (fs.getD i 0) 127
 st : ∀ i j, i < a → j < a → bd (ss.getD (i * a + j) 0) 127
 sh : ∀ i j, i < a → j < b → bd (hs.getD (i * b + j) 0) 127

theorem okRow_bd {xs : List Nat} (h : okRow xs = true) {i : Nat} (hi : i < xs.length) : bd (xs.getD i 0) 127 := by
 unfold okRow at h
 rw [Bool.and_eq_true] at h
 exact bd_share (allN_iff.1 h.1 i (by omega) (by omega))

theorem model_of {n k : Int} {fs ss hs : List Nat} (h : okModel n k fs ss hs = true) : ∃ a b : Nat, n = (a : Int) ∧ k = (b : Int) ∧ Model a b fs ss hs := by
 unfold okModel at h
 simp only [Bool.and_eq_true, decide_eq_true_eq, beq_iff_eq] at h
 obtain ⟨⟨h1, h2⟩, ⟨h3, h4⟩, h5, h6, h7, h8, h9, h10⟩ := h
 obtain ⟨a, rfl⟩ : ∃ a : Nat, n = (a : Int) := ⟨n.toNat, by omega⟩
 obtain ⟨b, rfl⟩ : ∃ b : Nat, k = (b : Int) := ⟨k.toNat, by omega⟩
 have m1 : a * a ≤ 5 * 5 := Nat.mul_le_mul (by omega) (by omega)
 have m2 : a * b ≤ 5 * 4 := Nat.mul_le_mul (by omega) (by omega)
 rw [wmulI (by rw [← Int.natCast_mul]; omega), ← Int.natCast_mul] at h6
 rw [wmulI (by rw [← Int.natCast_mul]; omega), ← Int.natCast_mul] at h7
 simp only [lenI] at h5 h6 h7
 have l1 : fs.length = a := by omega
 have l2 : ss.length = a * a := by omega
 have l3 : hs.length = a * b := by omega
 simp only [Int.toNat_natCast] at h9 h10
 refine ⟨a, b, rfl, rfl, by omega, by omega, by omega, by omega, l1, l2, l3, fun i hi => okRow_bd h8 (by omega), fun i j hi hj => ?_, fun i j hi hj => ?_⟩
 ·rw [← rowF_get l2 hi hj]
  exact okRow_bd (allN_iff.1 h9 i (by omega) (by omega)) (by rw [rowF_len l2 hi]; exact hj)
 ·rw [← rowF_get l3 hi hj]
  exact okRow_bd (allN_iff.1 h10 i (by omega) (by omega)) (by rw [rowF_len l3 hi]; exact hj)

def okMWord (n k : Int) (fs ss hs : List Nat) (w : List Int) : Bool := okModel n k fs ss hs && (allIn w 0 (wsub .i64 k 1) && decide (lenI w ≤ 12))

theorem implMWord {n k : Int} {fs ss hs : List Nat} {w : List Int} (h : w.length ≤ 4294967296) : impl_Model_has (n, k, fs, ss, hs) w = some (okMWord n k fs ss hs w) := by
 unfold impl_Model_has okMWord
 simp only [implModel, isWord64 h, Option.bind_some]
 cases hm : okModel n k fs ss hs with
 | false => rfl
 | true =>
  obtain ⟨a, b, rfl, rfl, m⟩ := model_of hm
  have := m.k1
  have := m.k2
  rw [decide_eq_true (show (b : Int) ≥ 1 by omega), decide_eq_true (show (b : Int) ≤ 4 by omega)]
  cases allIn w 0 (wsub .i64 (b : Int) 1) <;> cases decide (lenI w ≤ 12) <;> rfl

theorem cellM {a b i j : Nat} (ha : a ≤ 5) (hb : b ≤ 5) (hi : i < a) (hj : j < b) : wadd .i64 (wmul .i64 (i : Int) (b : Int)) (j : Int) = ((i * b + j : Nat) : Int) ∧ i * b + j < a * b := by
 refine ⟨cellN (by omega) (by omega) (by omega), ?_⟩
 have : (i + 1) * b ≤ a * b := Nat.mul_le_mul_right _ hi
 rw [Nat.succ_mul] at this
 omega

theorem finite_bd {x : Nat} {K : Nat} (h : bd x K) (h2 : 2 ≤ K) (h3 : K ≤ 254) : impl_finite x = some (x, true) := by
 unfold impl_finite impl_IsFinite
 rw [sub_self32 h h2 h3]
 rfl

end Go.Proofs


/-
 Chances forward; ChanceOf.
-/
namespace Go.Proofs
open Go.Ide Go.IntWalk

theorem bd_zero (K : Nat) : bd 0 K := by unfold bd; omega

theorem sumF_bd {xs : List Nat} {K : Nat} (hK : 2 ≤ K) (h : ∀ i, i < xs.length → bd (xs.getD i 0) K) : ∀ i, i ≤ xs.length → K + i ≤ 254 → bd (sumF xs i) (K + i)
 | 0, _, _ => bd_zero _
 | i + 1, hi, hk => by
  have h1 : bd (xs.getD i 0) (K + i) := (h i (by omega)).mono (by omega)
  have h2 : bd (sumF xs i) (K + i) := sumF_bd hK h i (by omega) (by omega)
  have := bd_add h2 h1 (by omega) (by omega)
  exact this

def cellF (a b : Nat) (ss hs row : List Nat) (c j : Nat) : Nat → Nat
 | 0 => 0
 | p + 1 => fop .add .f32 (cellF a b ss hs row c j p) (fop .mul .f32 (fop .mul .f32 (row.getD p 0) (hs.getD (p * b + c) 0)) (ss.getD (p * a + j) 0))

def nextF (a b : Nat) (ss hs row : List Nat) (c : Nat) : List Nat := (List.range a).map fun j => cellF a b ss hs row c j a

theorem nextF_len (a b : Nat) (ss hs row : List Nat) (c : Nat) : (nextF a b ss hs row c).length = a := by simp [nextF]

theorem nextF_get {a b : Nat} {ss hs row : List Nat} {c j : Nat} (hj : j < a) : (nextF a b ss hs row c).getD j 0 = cellF a b ss hs row c j a := by
 unfold nextF
 simp [List.getD_eq_getElem?_getD, hj]

theorem cellF_bd {a b : Nat} {fs ss hs : List Nat} (m : Model a b fs ss hs) {row : List Nat} {c j K : Nat} (hc : c < b) (hj : j < a) (hK : 2 ≤ K) (h : ∀ i, i < a → bd (row.getD i 0) K) : ∀ p, p ≤ a → K + p ≤ 254 → bd (cellF a b ss hs row c j p) (K + p)
 | 0, _, _ => bd_zero _
 | p + 1, hp, hk => by
  have h1 : bd (fop .mul .f32 (row.getD p 0) (hs.getD (p * b + c) 0)) K := bd_mul (h p (by omega)) (m.sh p c (by omega) hc) hK (by omega) (by omega) (by omega) hK (by omega)
  have h2 : bd (fop .mul .f32 (fop .mul .f32 (row.getD p 0) (hs.getD (p * b + c) 0)) (ss.getD (p * a + j) 0)) K := bd_mul h1 (m.st p j (by omega) hj) hK (by omega) (by omega) (by omega) hK (by omega)
  have h3 : bd (fop .mul .f32 (fop .mul .f32 (row.getD p 0) (hs.getD (p * b + c) 0)) (ss.getD (p * a + j) 0)) (K + p) := h2.mono (by omega)
  have h4 : bd (cellF a b ss hs row c j p) (K + p) := cellF_bd m hc hj hK h p (by omega) (by omega)
  have := bd_add h4 h3 (by omega) (by omega)
  exact this

theorem nextF_bd {a b : Nat} {fs ss hs : List Nat} (m : Model a b fs ss hs) {row : List Nat} {c K : Nat} (hc : c < b) (hK : 2 ≤ K) (h : ∀ i, i < a → bd (row.getD i 0) K) (hk : K + 5 ≤ 254) : ∀ j, j < a → bd ((nextF a b ss hs row c).getD j 0) (K + 5) := by
 intro j hj
 have := m.n2
 rw [nextF_get hj]
 exact (cellF_bd m hc hj hK h a (Nat.le_refl _) (by omega)).mono (by omega)

theorem loop_to0 {f : Int × List Nat → Option ((Int × List Nat) ⊕ List Nat)} (xs : List Nat)
  (hstep : ∀ (i : Nat) (out : List Nat), i < xs.length → out.length = xs.length → out.getD i 0 = 0 → f ((i : Int), out) = some (.inl (((i + 1 : Nat) : Int), out.set i (xs.getD i 0))))
  (hend : ∀ out : List Nat, out.length = xs.length → f (((xs.length : Nat) : Int), out) = some (.inr out)) : rounds f ((0 : Int), List.replicate xs.length 0) = some xs := by
 have := rounds_forS (f := f) (fun i out => (((i : Nat) : Int), out)) (fun i out => out.set i (xs.getD i 0)) id (n := xs.length) (fun i out => out = xs.take i ++ List.replicate (xs.length - i) 0)
  (fun i out hi h => ⟨hstep i out hi (by rw [h]; simp; omega) (by
   rw [h, List.getD_eq_getElem?_getD, List.getElem?_append_right (by simp; omega)]
   simp only [List.length_take, List.getElem?_replicate]
   split <;> rfl), by
   rw [h, take_snoc hi 0, show xs.length - i = (xs.length - (i + 1)) + 1 from by omega, List.replicate_succ, set_at (by simp; omega)]
   simp⟩)
  (fun out h => hend out (by rw [h]; simp)) xs.length 0 (List.replicate xs.length 0) (by omega) (by simp)
 simp only [Int.natCast_zero] at this
 rw [this.1, this.2]
 simp

theorem implNext {a b : Nat} {fs ss hs : List Nat} (m : Model a b fs ss hs) {row : List Nat} {c : Nat} (hc : c < b) (hr : row.length = a) : impl_Model_nextRow ((a : Int), (b : Int), fs, ss, hs) row (c : Int) = some (nextF a b ss hs row c) := by
 have hn2 := m.n2
 have hk2 := m.k2
 have hls := m.ls
 have hlh := m.lh
 have hnl := nextF_len a b ss hs row c
 have := loop_to0 (f := impl_Model_nextRow_B2 ((a : Int), (b : Int), fs, ss, hs) row (c : Int)) (nextF a b ss hs row c)
  (fun j out hj ho h0 => by
   rw [hnl] at hj ho
   have := rounds_forS (f := impl_Model_nextRow_B1 ((a : Int), (b : Int), fs, ss, hs) row (c : Int) ((j : Int), out)) (fun p s => (((p : Nat) : Int), s))
    (fun p s => s.set j (fop .add .f32 (s.getD j 0) (fop .mul .f32 (fop .mul .f32 (row.getD p 0) (hs.getD (p * b + c) 0)) (ss.getD (p * a + j) 0)))) id (n := a) (fun p s => s = out.set j (cellF a b ss hs row c j p))
    (fun p s hp hs' => ⟨by
     obtain ⟨e1, e2⟩ := cellM (a := a) (b := b) (by omega) (by omega) hp hc
     obtain ⟨e3, e4⟩ := cellM (a := a) (b := a) (by omega) (by omega) hp hj
     have hsl : s.length = a := by rw [hs']; simp [ho]
     have j0 := idxN (i := j) (n := s.length) (by omega)
     have j1 := idxN (i := p) (n := row.length) (by omega)
     have j3 := idxN (i := p * b + c) (n := hs.length) (by omega)
     have j4 := idxN (i := p * a + j) (n := ss.length) (by omega)
     unfold impl_Model_nextRow_B1 impl_Model_show impl_Model_step
     simp only [ltN hp, cond_true, Int.toNat_natCast, nextN hp (show a ≤ 4294967296 by omega), e1, e3]
     rw [guard_pos j0, guard_pos j1, guard_pos j3, Option.bind_some, guard_pos j4, Option.bind_some], by
     rw [hs']
     have : (out.set j (cellF a b ss hs row c j p)).getD j 0 = cellF a b ss hs row c j p := by
      simp [List.getD_eq_getElem?_getD, ho, hj]
     rw [this, List.set_set]
     rfl⟩)
    (fun s _ => by
     unfold impl_Model_nextRow_B1
     simp only [geN (Nat.le_refl _), cond_false]; rfl) a 0 out (by omega) (by
     show out = out.set j 0
     apply List.ext_getElem (by simp)
     intro i h1 h2
     rw [List.getElem_set]
     split
     ·rename_i e
      subst e
      simpa [List.getD_eq_getElem?_getD, List.getElem?_eq_getElem h1] using h0
     ·rfl)
   simp only [Int.natCast_zero] at this
   unfold impl_Model_nextRow_B2
   simp only [ltN hj, cond_true, this.1, id, Option.bind_some, nextN hj (show a ≤ 4294967296 by omega)]
   rw [this.2, nextF_get hj])
  (fun out _ => by
   unfold impl_Model_nextRow_B2
   rw [hnl]
   simp only [geN (Nat.le_refl _), cond_false])
 unfold impl_Model_nextRow
 rw [guard_pos ⟨by omega, by simp only; omega⟩]
 simp only [Int.toNat_natCast]
 rw [hnl] at this
 rw [this]
 rfl

def rowAt (a b : Nat) (fs ss hs : List Nat) (w : List Int) : Nat → List Nat
 | 0 => fs
 | i + 1 => nextF a b ss hs (rowAt a b fs ss hs w i) (w.getD i 0).toNat

theorem rowAt_len {a b : Nat} {fs ss hs : List Nat} (m : Model a b fs ss hs) (w : List Int) : ∀ i, (rowAt a b fs ss hs w i).length = a
 | 0 => m.lf
 | i + 1 => nextF_len ..

theorem rowAt_bd {a b : Nat} {fs ss hs : List Nat} (m : Model a b fs ss hs) {w : List Int} (hw : Letters b w) (hl : w.length ≤ 12) : ∀ i, i ≤ w.length → ∀ j, j < a → bd ((rowAt a b fs ss hs w i).getD j 0) (127 + 5 * i)
 | 0, _ => m.sf
 | i + 1, hi => by
  obtain ⟨c, hc, hc2⟩ := hw i (by omega)
  rw [rowAt, hc, Int.toNat_natCast, show 127 + 5 * (i + 1) = 127 + 5 * i + 5 by omega]
  exact nextF_bd m hc2 (by omega) (rowAt_bd m hw hl i (by omega)) (by omega)

def rowsF (a b : Nat) (fs ss hs : List Nat) (w : List Int) : List (List Nat) := (List.range (w.length + 1)).map (rowAt a b fs ss hs w)

theorem rows_at (h : Nat → List Nat) (i : Nat) : ((List.range (i + 1)).map h).getD i [] = h i := by
 simp [List.getD_eq_getElem?_getD]

theorem implForward {a b : Nat} {fs ss hs : List Nat} (m : Model a b fs ss hs) {w : List Int} (hw : Letters b w) (hl : w.length ≤ 12) : impl_Model_forward ((a : Int), (b : Int), fs, ss, hs) w = some (rowsF a b fs ss hs w) := by
 have := rounds_forS (f := impl_Model_forward_B1 ((a : Int), (b : Int), fs, ss, hs) w) (fun i out => (((i : Nat) : Int), out)) (fun i out => out ++ [rowAt a b fs ss hs w (i + 1)]) id (n := w.length) (fun i out => out = (List.range (i + 1)).map (rowAt a b fs ss hs w))
  (fun i out hi ho => ⟨by
   obtain ⟨c, hc, hc2⟩ := hw i hi
   have e : out.getD i [] = rowAt a b fs ss hs w i := by rw [ho]; exact rows_at _ _
   have hlo : out.length = i + 1 := by rw [ho]; simp
   have j1 := idxN (i := i) (n := out.length) (by omega)
   unfold impl_Model_forward_B1
   simp only [ltN hi, cond_true, Int.toNat_natCast, nextN hi (show w.length ≤ 4294967296 by omega), e, hc, implNext m hc2 (rowAt_len m w i), Option.bind_some]
   rw [guard_pos (idxN hi), guard_pos j1, guard_pos (by simp only [hlo, List.length_singleton, appMax]; omega), rowAt, hc, Int.toNat_natCast], by
   rw [ho, List.range_succ (n := i + 1), List.map_append]; rfl⟩)
  (fun out _ => by
   unfold impl_Model_forward_B1
   simp only [geN (Nat.le_refl _), cond_false]; rfl) w.length 0 [fs] (by omega) rfl
 simp only [Int.natCast_zero] at this
 unfold impl_Model_forward
 have hcl : slices_Clone fs = some fs := by
  have := m.lf
  have := m.n2
  unfold slices_Clone
  rw [guard_pos (by simp only [appMax]; omega)]
 rw [hcl]
 simp only [Option.bind_some]
 rw [this.1]
 simp only [id, Option.bind_some, this.2, rowsF]

end Go.Proofs


/-
 The likeliest hidden states; BestHidden.
-/
namespace Go.Proofs
open Go.Ide Go.IntWalk

section
variable {a b : Nat} {fs ss hs : List Nat}

end

end Go.Proofs


/-
 BestHidden: the program's rows; the ways back.
-/
namespace Go.Proofs
open Go.Ide Go.IntWalk

section
variable {a b : Nat} {fs ss hs : List Nat}

end

end Go.Proofs


/-
 Lists of finite numbers; lists one after another; ForwardOf, NextLetters.
-/
namespace Go.Proofs
open Go.Ide Go.IntWalk

theorem rounds_find {τ ρ : Type} {f : τ → Option (τ ⊕ ρ)} (mk : Nat → τ) (p : Nat → Bool) (a : ρ) (b : Nat → ρ) {n : Nat}
  (hstep : ∀ i, i < n → f (mk i) = some (bif p i then .inl (mk (i + 1)) else .inr (b i))) (hend : f (mk n) = some (.inr a)) : ∀ (k i : Nat), i + k = n → ∃ j, rounds f (mk i) = some (bif allN p k i then a else b j)
 | 0, i, hi => by
  have : i = n := by omega
  subst this
  rw [rounds_eq, hend]
  exact ⟨0, rfl⟩
 | k + 1, i, hi => by
  rw [rounds_eq, hstep i (by omega)]
  simp only [allN]
  cases p i with
  | true => simp only [cond_true, Bool.true_and]; exact rounds_find mk p a b hstep hend k (i + 1) (by omega)
  | false => exact ⟨i, rfl⟩

def fin (x : Nat) : Bool := feq .f32 (fop .sub .f32 x x) 0

def fins (xs : List Nat) : Bool := allN (fun i => fin (xs.getD i 0)) xs.length 0

theorem fin_bd {x K : Nat} (h : bd x K) (h2 : 2 ≤ K) (h3 : K ≤ 254) : fin x = true := by
 unfold fin
 rw [sub_self32 h h2 h3]
 rfl

theorem implFins {xs : List Nat} (h : xs.length ≤ 4294967296) : impl_areFinite xs = some (fins xs) := by
 obtain ⟨j, this⟩ := rounds_find (f := slices_IndexFunc___float32_float32_fn1_impl_areFinite_1_B1 xs) (fun i => ((i : Nat) : Int)) (fun i => fin (xs.getD i 0)) (Sum.inl ()) (fun i => Sum.inr ((i : Nat) : Int)) (n := xs.length) (fun i hi => by
  unfold slices_IndexFunc___float32_float32_fn1_impl_areFinite_1_B1 impl_areFinite_1 impl_IsFinite
  simp only [ltN hi, cond_true, guard_pos (idxN hi), Int.toNat_natCast, Option.bind_some, nextN hi h]
  show _ = some (bif feq .f32 (fop .sub .f32 (xs.getD i 0) (xs.getD i 0)) 0 then _ else _)
  cases feq .f32 (fop .sub .f32 (xs.getD i 0) (xs.getD i 0)) 0 <;> rfl) (by
  unfold slices_IndexFunc___float32_float32_fn1_impl_areFinite_1_B1
  simp only [geN (Nat.le_refl _), cond_false]) xs.length 0 (by omega)
 simp only [Int.natCast_zero] at this
 unfold impl_areFinite slices_ContainsFunc___float32_float32_fn1_impl_areFinite_1 slices_IndexFunc___float32_float32_fn1_impl_areFinite_1 fins
 rw [this]
 cases allN (fun i => fin (xs.getD i 0)) xs.length 0 with
 | true => rfl
 | false =>
  simp only [cond_false, Option.bind_some, ge_iff_le]
  rw [decide_eq_true (Int.natCast_nonneg j)]
  rfl

theorem implFinsL {xs : List Nat} (h : xs.length ≤ 4294967296) : impl_finiteList_mv0 xs = some (bif fins xs then (xs, true) else ([], false)) := by
 unfold impl_finiteList_mv0
 rw [implFins h]
 cases fins xs <;> rfl

def catN (xs : List (List Nat)) : Nat → List Nat
 | 0 => []
 | i + 1 => catN xs i ++ xs.getD i []

theorem catN_len {xs : List (List Nat)} {c : Nat} (h : ∀ i, i < xs.length → (xs.getD i []).length ≤ c) : ∀ i, i ≤ xs.length → (catN xs i).length ≤ i * c
 | 0, _ => by simp [catN]
 | i + 1, hi => by
  have h1 := catN_len h i (by omega)
  have h2 := h i (by omega)
  rw [catN, List.length_append, Nat.succ_mul]
  omega

theorem growNil {n : Nat} (h : n ≤ 4294967296) : slices_Grow___float32_float32_nl0 (n : Int) = some [] := by
 unfold slices_Grow___float32_float32_nl0
 have e : wsub .i64 (n : Int) (wsub .i64 0 0) = (n : Int) := by rw [show wsub .i64 0 0 = 0 from rfl, wsubI (by omega)]; omega
 rw [e]
 simp only [show decide ((n : Int) < 0) = false from decide_eq_false (by omega), cond_false]
 cases hd : decide ((n : Int) > 0) with
 | false => rfl
 | true =>
  simp only [cond_true]
  rw [guard_pos ⟨by omega, by omega⟩, guard_pos ⟨by omega, by simp only [lenI]; omega⟩]
  rfl

theorem implCat {xs : List (List Nat)} {c : Nat} (hc : ∀ i, i < xs.length → (xs.getD i []).length ≤ c) (h : xs.length * c ≤ 1048576) (hl : xs.length ≤ 1048576) : slices_Concat___float32_float32 xs = some (catN xs xs.length) := by
 have hb : ∀ i, i < xs.length → (catN xs i).length + (xs.getD i []).length ≤ 1048576 := fun i hi => by
  have h1 := catN_len hc i (by omega)
  have h2 := hc i hi
  have h3 : (i + 1) * c ≤ xs.length * c := Nat.mul_le_mul_right _ hi
  rw [Nat.succ_mul] at h3
  omega
 have h2 := rounds_forS (f := slices_Concat___float32_float32_B2 xs) (fun i s => (s, ((i : Nat) : Int))) (fun i s => s + ((xs.getD i []).length : Int)) id (n := xs.length) (fun i s => s = ((catN xs i).length : Int))
  (fun i s hi hs => ⟨by
   have := hb i hi
   have e : wadd .i64 s (lenI (xs.getD i [])) = s + ((xs.getD i []).length : Int) := by rw [hs]; simp only [lenI]; rw [waddI (by omega)]
   unfold slices_Concat___float32_float32_B2
   simp only [ltN hi, cond_true, guard_pos (idxN hi), Int.toNat_natCast, nextN hi (show xs.length ≤ 4294967296 by omega), e]
   rw [decide_eq_false (by rw [hs]; omega)]
   rfl, by rw [hs, catN, List.length_append]; omega⟩)
  (fun s hs => by
   unfold slices_Concat___float32_float32_B2
   simp only [geN (Nat.le_refl _), cond_false]; rfl) xs.length 0 0 (by omega) rfl
 have h1 := rounds_forS (f := slices_Concat___float32_float32_B1 xs) (fun i s => (((i : Nat) : Int), s)) (fun i s => s ++ xs.getD i []) id (n := xs.length) (fun i s => s = catN xs i)
  (fun i s hi hs => ⟨by
   have := hb i hi
   unfold slices_Concat___float32_float32_B1
   simp only [ltN hi, cond_true, guard_pos (idxN hi), Int.toNat_natCast, nextN hi (show xs.length ≤ 4294967296 by omega)]
   rw [guard_pos (by rw [hs]; unfold appMax; omega)], by rw [hs]; rfl⟩)
  (fun s hs => by
   unfold slices_Concat___float32_float32_B1
   simp only [geN (Nat.le_refl _), cond_false]; rfl) xs.length 0 [] (by omega) rfl
 have hlast : (catN xs xs.length).length ≤ 4294967296 := by have := catN_len hc xs.length (Nat.le_refl _); omega
 simp only [Int.natCast_zero] at h1 h2
 unfold slices_Concat___float32_float32
 rw [h2.1]
 simp only [id, Option.bind_some]
 rw [h2.2, growNil hlast]
 simp only [Option.bind_some]
 rw [h1.1]
 simp only [id, Option.bind_some, h1.2]

theorem rowsF_len {a b : Nat} {fs ss hs : List Nat} {w : List Int} : (rowsF a b fs ss hs w).length = w.length + 1 := by simp [rowsF]
theorem rowsF_get {a b : Nat} {fs ss hs : List Nat} {w : List Int} {i : Nat} (h : i < w.length + 1) : (rowsF a b fs ss hs w).getD i [] = rowAt a b fs ss hs w i := by
 unfold rowsF
 simp [List.getD_eq_getElem?_getD, h]

theorem allN_cat (p : Nat → Bool) (xs : List (List Nat)) (h : ∀ i, i < xs.length → ∀ j, j < (xs.getD i []).length → p ((xs.getD i []).getD j 0) = true) : ∀ i, i ≤ xs.length → ∀ j, j < (catN xs i).length → p ((catN xs i).getD j 0) = true
 | 0, _, j, hj => by simp [catN] at hj
 | i + 1, hi, j, hj => by
  rw [catN] at hj ⊢
  rw [List.length_append] at hj
  simp only [List.getD_eq_getElem?_getD]
  by_cases hlt : j < (catN xs i).length
  ·rw [List.getElem?_append_left hlt, ← List.getD_eq_getElem?_getD]
   exact allN_cat p xs h i (by omega) j hlt
  ·rw [List.getElem?_append_right (by omega), ← List.getD_eq_getElem?_getD]
   exact h i (by omega) _ (by omega)

def letF (b : Nat) (hs row : List Nat) (c : Nat) : Nat → Nat
 | 0 => 0
 | p + 1 => fop .add .f32 (letF b hs row c p) (fop .mul .f32 (row.getD p 0) (hs.getD (p * b + c) 0))

end Go.Proofs


/-
 Chances backward; BackwardOf.
-/
namespace Go.Proofs
open Go.Ide Go.IntWalk

def cellB (a b : Nat) (ss hs row : List Nat) (c i : Nat) : Nat → Nat
 | 0 => 0
 | p + 1 => fop .add .f32 (cellB a b ss hs row c i p) (fop .mul .f32 (fop .mul .f32 (hs.getD (i * b + c) 0) (ss.getD (i * a + p) 0)) (row.getD p 0))

def prevB (a b : Nat) (ss hs row : List Nat) (c : Nat) : List Nat := (List.range a).map fun i => cellB a b ss hs row c i a

theorem prevB_len (a b : Nat) (ss hs row : List Nat) (c : Nat) : (prevB a b ss hs row c).length = a := by simp [prevB]

theorem prevB_get {a b : Nat} {ss hs row : List Nat} {c i : Nat} (hi : i < a) : (prevB a b ss hs row c).getD i 0 = cellB a b ss hs row c i a := by
 unfold prevB
 simp [List.getD_eq_getElem?_getD, hi]

theorem cellB_bd {a b : Nat} {fs ss hs : List Nat} (m : Model a b fs ss hs) {row : List Nat} {c i K : Nat} (hc : c < b) (hi : i < a) (hK : 2 ≤ K) (h : ∀ i, i < a → bd (row.getD i 0) K) : ∀ p, p ≤ a → K + p ≤ 254 → bd (cellB a b ss hs row c i p) (K + p)
 | 0, _, _ => bd_zero _
 | p + 1, hp, hk => by
  have h1 : bd (fop .mul .f32 (hs.getD (i * b + c) 0) (ss.getD (i * a + p) 0)) 127 := bd_mul (m.sh i c hi hc) (m.st i p hi (by omega)) (by omega) (by omega) (by omega) (by omega) (by omega) (by omega)
  have h2 : bd (fop .mul .f32 (fop .mul .f32 (hs.getD (i * b + c) 0) (ss.getD (i * a + p) 0)) (row.getD p 0)) K := bd_mul h1 (h p (by omega)) (by omega) (by omega) hK (by omega) hK (by omega)
  have h3 : bd (fop .mul .f32 (fop .mul .f32 (hs.getD (i * b + c) 0) (ss.getD (i * a + p) 0)) (row.getD p 0)) (K + p) := h2.mono (by omega)
  have h4 : bd (cellB a b ss hs row c i p) (K + p) := cellB_bd m hc hi hK h p (by omega) (by omega)
  have := bd_add h4 h3 (by omega) (by omega)
  exact this

theorem prevB_bd {a b : Nat} {fs ss hs : List Nat} (m : Model a b fs ss hs) {row : List Nat} {c K : Nat} (hc : c < b) (hK : 2 ≤ K) (h : ∀ i, i < a → bd (row.getD i 0) K) (hk : K + 5 ≤ 254) : ∀ j, j < a → bd ((prevB a b ss hs row c).getD j 0) (K + 5) := by
 intro j hj
 have := m.n2
 rw [prevB_get hj]
 exact (cellB_bd m hc hj hK h a (Nat.le_refl _) (by omega)).mono (by omega)

def rowE (a b : Nat) (ss hs : List Nat) (w : List Int) : Nat → List Nat
 | 0 => List.replicate a 1065353216
 | k + 1 => prevB a b ss hs (rowE a b ss hs w k) (w.getD (w.length - (k + 1)) 0).toNat

theorem rowE_len {a b : Nat} {ss hs : List Nat} (w : List Int) : ∀ k, (rowE a b ss hs w k).length = a
 | 0 => by simp [rowE]
 | k + 1 => prevB_len ..

theorem bd_one : bd 1065353216 127 := by unfold bd; decide

theorem rowE_bd {a b : Nat} {fs ss hs : List Nat} (m : Model a b fs ss hs) {w : List Int} (hw : Letters b w) (hl : w.length ≤ 12) : ∀ k, k ≤ w.length → ∀ j, j < a → bd ((rowE a b ss hs w k).getD j 0) (127 + 5 * k)
 | 0, _, j, hj => by
  rw [rowE, List.getD_eq_getElem?_getD, List.getElem?_replicate, if_pos hj]
  exact bd_one
 | k + 1, hk, j, hj => by
  obtain ⟨c, hc, hc2⟩ := hw (w.length - (k + 1)) (by omega)
  rw [rowE, hc, Int.toNat_natCast, show 127 + 5 * (k + 1) = 127 + 5 * k + 5 by omega]
  exact prevB_bd m hc2 (by omega) (rowE_bd m hw hl k (by omega)) (by omega) j hj

def rowsB (a b : Nat) (ss hs : List Nat) (w : List Int) : List (List Nat) := (List.range (w.length + 1)).map fun i => rowE a b ss hs w (w.length - i)

theorem rowsB_len {a b : Nat} {ss hs : List Nat} {w : List Int} : (rowsB a b ss hs w).length = w.length + 1 := by simp [rowsB]
theorem rowsB_get {a b : Nat} {ss hs : List Nat} {w : List Int} {i : Nat} (h : i < w.length + 1) : (rowsB a b ss hs w).getD i [] = rowE a b ss hs w (w.length - i) := by
 unfold rowsB
 simp [List.getD_eq_getElem?_getD, h]

theorem getD_set_ne {α : Type} {xs : List α} {i j : Nat} {x d : α} (h : i ≠ j) : (xs.set i x).getD j d = xs.getD j d := by
 simp [List.getD_eq_getElem?_getD, List.getElem?_set_ne h]

theorem getD_set_at {α : Type} {xs : List α} {i : Nat} {x d : α} (h : i < xs.length) : (xs.set i x).getD i d = x := by
 simp [List.getD_eq_getElem?_getD, h]

structure RowsTo (a b : Nat) (ss hs : List Nat) (w : List Int) (k : Nat) (out : List (List Nat)) : Prop where
 len : out.length = w.length + 1
 done : ∀ j, w.length - k ≤ j → j ≤ w.length → out.getD j [] = rowE a b ss hs w (w.length - j)
 todo : ∀ j, j < w.length - k → out.getD j [] = []

theorem RowsTo.all {a b : Nat} {ss hs : List Nat} {w : List Int} {out : List (List Nat)} (h : RowsTo a b ss hs w w.length out) : out = rowsB a b ss hs w := by
 refine List.ext_getElem (by rw [h.len, rowsB_len]) fun i h1 h2 => ?_
 have e1 : out[i] = out.getD i [] := by simp [List.getD_eq_getElem?_getD, h1]
 have e2 : (rowsB a b ss hs w)[i] = (rowsB a b ss hs w).getD i [] := by simp [List.getD_eq_getElem?_getD, h2]
 have hi := h.len
 rw [e1, e2, h.done i (by omega) (by omega), rowsB_get (by omega)]

theorem RowsTo.step {a b : Nat} {ss hs : List Nat} {w : List Int} {k : Nat} {out : List (List Nat)} (h : RowsTo a b ss hs w k out) (hk : k < w.length) : RowsTo a b ss hs w (k + 1) (out.set (w.length - (k + 1)) (rowE a b ss hs w (k + 1))) := by
 have hl := h.len
 refine ⟨by simp [hl], fun j h1 h2 => ?_, fun j hj => ?_⟩
 ·by_cases e : w.length - (k + 1) = j
  ·subst e
   rw [getD_set_at (by omega), show w.length - (w.length - (k + 1)) = k + 1 by omega]
  ·rw [getD_set_ne e]; exact h.done j (by omega) h2
 ·rw [getD_set_ne (by omega)]; exact h.todo j (by omega)

theorem wsubN {n k : Nat} (hk : k < n) (hn : n ≤ 4294967296) : wsub .i64 ((n - (k + 1) : Nat) : Int) 1 = (n : Int) - 1 - ((k + 1 : Nat) : Int) := by
 rw [wsubI (by omega)]; omega

theorem repeatOnes : ∀ a : Nat, a ≤ 5 → slices_Repeat___float32_float32 [1065353216] (a : Int) = some (List.replicate a 1065353216)
 | 0, _ => by
  have e : slices_Repeat___float32_float32 [1065353216] ((0 : Nat) : Int) = (rounds slices_Repeat___float32_float32_B1 ((0 : Int), ([] : List Nat))).bind fun r => some r := by kernel_rfl
  rw [e, rounds_iff.2 ⟨2, show Go.Ide.runN slices_Repeat___float32_float32_B1 2 ((0 : Int), ([] : List Nat)) = some [] by kernel_rfl⟩]; rfl
 | 1, _ => by
  have e : slices_Repeat___float32_float32 [1065353216] ((1 : Nat) : Int) = (rounds slices_Repeat___float32_float32_B1 ((1 : Int), [1065353216])).bind fun r => some r := by kernel_rfl
  rw [e, rounds_iff.2 ⟨2, show Go.Ide.runN slices_Repeat___float32_float32_B1 2 ((1 : Int), [1065353216]) = some [1065353216] by kernel_rfl⟩]; rfl
 | 2, _ => by
  have e : slices_Repeat___float32_float32 [1065353216] ((2 : Nat) : Int) = (rounds slices_Repeat___float32_float32_B1 ((1 : Int), [1065353216, 0])).bind fun r => some r := by kernel_rfl
  rw [e, rounds_iff.2 ⟨3, show Go.Ide.runN slices_Repeat___float32_float32_B1 3 ((1 : Int), [1065353216, 0]) = some [1065353216, 1065353216] by kernel_rfl⟩]; rfl
 | 3, _ => by
  have e : slices_Repeat___float32_float32 [1065353216] ((3 : Nat) : Int) = (rounds slices_Repeat___float32_float32_B1 ((1 : Int), [1065353216, 0, 0])).bind fun r => some r := by kernel_rfl
  rw [e, rounds_iff.2 ⟨4, show Go.Ide.runN slices_Repeat___float32_float32_B1 4 ((1 : Int), [1065353216, 0, 0]) = some [1065353216, 1065353216, 1065353216] by kernel_rfl⟩]; rfl
 | 4, _ => by
  have e : slices_Repeat___float32_float32 [1065353216] ((4 : Nat) : Int) = (rounds slices_Repeat___float32_float32_B1 ((1 : Int), [1065353216, 0, 0, 0])).bind fun r => some r := by kernel_rfl
  rw [e, rounds_iff.2 ⟨4, show Go.Ide.runN slices_Repeat___float32_float32_B1 4 ((1 : Int), [1065353216, 0, 0, 0]) = some [1065353216, 1065353216, 1065353216, 1065353216] by kernel_rfl⟩]; rfl
 | 5, _ => by
  have e : slices_Repeat___float32_float32 [1065353216] ((5 : Nat) : Int) = (rounds slices_Repeat___float32_float32_B1 ((1 : Int), [1065353216, 0, 0, 0, 0])).bind fun r => some r := by kernel_rfl
  rw [e, rounds_iff.2 ⟨5, show Go.Ide.runN slices_Repeat___float32_float32_B1 5 ((1 : Int), [1065353216, 0, 0, 0, 0]) = some [1065353216, 1065353216, 1065353216, 1065353216, 1065353216] by kernel_rfl⟩]; rfl
 | _ + 6, h => by omega

theorem implBack {a b : Nat} {fs ss hs : List Nat} (m : Model a b fs ss hs) {w : List Int} (hw : Letters b w) (hl : w.length ≤ 12) : impl_Model_backward ((a : Int), (b : Int), fs, ss, hs) w = some (rowsB a b ss hs w) := by
 have hn2 := m.n2
 have hk2 := m.k2
 have hls := m.ls
 have hlh := m.lh
 have h3 := rounds_forS (f := impl_Model_backward_B3 ((a : Int), (b : Int), fs, ss, hs) w) (fun k out => ((w.length : Int) - 1 - ((k : Nat) : Int), out)) (fun k out => out.set (w.length - (k + 1)) (rowE a b ss hs w (k + 1))) id (n := w.length) (RowsTo a b ss hs w)
  (fun k out hk ho => ⟨by
   have hat : ((w.length : Int) - 1 - ((k : Nat) : Int)) = ((w.length - (k + 1) : Nat) : Int) := by omega
   rw [hat]
   obtain ⟨c, hc, hc2⟩ := hw (w.length - (k + 1)) (by omega)
   have hlo := ho.len
   have hnx : out.getD (w.length - k) [] = rowE a b ss hs w k := by
    rw [ho.done _ (Nat.le_refl _) (by omega), show w.length - (w.length - k) = k by omega]
   have hrl := rowE_len (a := a) (b := b) (ss := ss) (hs := hs) w k
   have hnl := prevB_len a b ss hs (rowE a b ss hs w k) c
   have h2 := loop_to0 (f := impl_Model_backward_B2 ((a : Int), (b : Int), fs, ss, hs) w (((w.length - (k + 1) : Nat) : Int), out)) (prevB a b ss hs (rowE a b ss hs w k) c)
    (fun i o hi hol h0 => by
     rw [hnl] at hi hol
     have h1 := rounds_forS (f := impl_Model_backward_B1 ((a : Int), (b : Int), fs, ss, hs) w (((w.length - (k + 1) : Nat) : Int), out) (((i : Nat) : Int), o)) (fun p s => (((p : Nat) : Int), s))
      (fun p s => s.set i (fop .add .f32 (s.getD i 0) (fop .mul .f32 (fop .mul .f32 (hs.getD (i * b + c) 0) (ss.getD (i * a + p) 0)) ((rowE a b ss hs w k).getD p 0)))) id (n := a) (fun p s => s = o.set i (cellB a b ss hs (rowE a b ss hs w k) c i p))
      (fun p s hp hs' => ⟨by
       obtain ⟨e1, e2⟩ := cellM (a := a) (b := b) (by omega) (by omega) hi hc2
       obtain ⟨e3, e4⟩ := cellM (a := a) (b := a) (by omega) (by omega) hi hp
       have e5 : wadd .i64 (((w.length - (k + 1) : Nat) : Int)) 1 = ((w.length - k : Nat) : Int) := by rw [waddI (by omega)]; omega
       have hsl : s.length = a := by rw [hs']; simp [hol]
       have j0 := idxN (i := i) (n := s.length) (by omega)
       have j5 := idxN (i := w.length - (k + 1)) (n := w.length) (by omega)
       have j1 := idxN (i := i * b + c) (n := hs.length) (by omega)
       have j2 := idxN (i := i * a + p) (n := ss.length) (by omega)
       have j3 := idxN (i := w.length - k) (n := out.length) (by omega)
       have j4 := idxN (i := p) (n := (rowE a b ss hs w k).length) (by omega)
       unfold impl_Model_backward_B1 impl_Model_show impl_Model_step
       simp only [lenI, ltN hp, cond_true, Int.toNat_natCast, nextN hp (show a ≤ 4294967296 by omega), hc, e1, e3, e5, hnx]
       rw [guard_pos j0, guard_pos j5, guard_pos j1, Option.bind_some, guard_pos j2, Option.bind_some, guard_pos j3, guard_pos j4], by
       rw [hs']
       rw [getD_set_at (by omega), List.set_set]
       rfl⟩)
      (fun s _ => by
       unfold impl_Model_backward_B1
       simp only [geN (Nat.le_refl _), cond_false]; rfl) a 0 o (by omega) (by
       show o = o.set i 0
       apply List.ext_getElem (by simp)
       intro j h1 h2
       rw [List.getElem_set]
       split
       ·rename_i e
        subst e
        simpa [List.getD_eq_getElem?_getD, List.getElem?_eq_getElem h1] using h0
       ·rfl)
     simp only [Int.natCast_zero] at h1
     unfold impl_Model_backward_B2
     simp only [ltN hi, cond_true, h1.1, id, Option.bind_some, nextN hi (show a ≤ 4294967296 by omega)]
     rw [h1.2, prevB_get hi])
    (fun o _ => by
     unfold impl_Model_backward_B2
     rw [hnl]
     simp only [geN (Nat.le_refl _), cond_false])
   rw [hnl] at h2
   have j6 := idxN (i := w.length - (k + 1)) (n := out.length) (by omega)
   unfold impl_Model_backward_B3
   rw [show decide (((w.length - (k + 1) : Nat) : Int) ≥ 0) = true from decide_eq_true (Int.natCast_nonneg _)]
   simp only [cond_true, Int.toNat_natCast, lenI]
   rw [guard_pos ⟨by omega, by omega⟩, h2]
   simp only [Option.bind_some]
   rw [guard_pos j6, wsubN hk (show w.length ≤ 4294967296 by omega), rowE, hc, Int.toNat_natCast], ho.step hk⟩)
  (fun out _ => by
   unfold impl_Model_backward_B3
   rw [show decide ((w.length : Int) - 1 - ((w.length : Nat) : Int) ≥ 0) = false from decide_eq_false (by omega)]
   rfl) w.length 0 ((List.replicate (w.length + 1) ([] : List Nat)).set w.length (List.replicate a 1065353216)) (by omega) ⟨by simp, fun j q1 q2 => by
    have : j = w.length := by omega
    subst this
    rw [getD_set_at (by simp), Nat.sub_self, rowE], fun j hj => by
    rw [getD_set_ne (by omega), List.getD_eq_getElem?_getD, List.getElem?_replicate]
    split <;> rfl⟩
 simp only [Int.natCast_zero, Int.sub_zero] at h3
 unfold impl_Model_backward
 simp only [lenI, List.length_replicate]
 have e1 : wadd .i64 (w.length : Int) 1 = ((w.length + 1 : Nat) : Int) := by rw [waddI (by omega)]; omega
 have e2 : wsub .i64 (w.length : Int) 1 = (w.length : Int) - 1 := by rw [wsubI (by omega)]
 rw [e1, e2, guard_pos ⟨by omega, by omega⟩, repeatOnes a hn2]
 simp only [Option.bind_some, Int.toNat_natCast]
 rw [guard_pos ⟨by omega, by omega⟩, h3.1]
 simp only [id, Option.bind_some]
 rw [RowsTo.all h3.2]

end Go.Proofs


/-
 Shares of a list; HiddenAt, PairAt.
-/
namespace Go.Proofs
open Go.Ide Go.IntWalk

def quoF (xs : List Nat) (all : Nat) : List Nat := (List.range xs.length).map fun i => fop .quo .f32 (xs.getD i 0) all

theorem quoF_len (xs : List Nat) (all : Nat) : (quoF xs all).length = xs.length := by simp [quoF]

end Go.Proofs


/-
 The source from which the laws draw.
-/
namespace Go.Proofs
open Go.Ide Go.IntWalk

abbrev SrcD := List Int × Int × Int

def BytesI (c : List Int) : Prop := c.length ≤ 1048576 ∧ ∀ i, i < c.length → 0 ≤ c.getD i 0 ∧ c.getD i 0 ≤ 255

theorem bytesI_wf {x : List Int} (w : WfD (.sl (.int .u8)) x) (h : x.length ≤ 1048576) : BytesI x := by
 refine ⟨h, fun i hi => ?_⟩
 have := w.2 i hi
 have h2 : (Lit.int .u8 (x[i] : Int)).wf = true := this
 rw [List.getD_eq_getElem?_getD, List.getElem?_eq_getElem hi]
 simp only [Lit.wf, Bool.and_eq_true, decide_eq_true_eq] at h2
 have e1 : IntKind.u8.min = 0 := by decide
 have e2 : IntKind.u8.max = 255 := by decide
 rw [e1, e2] at h2
 simp only [Option.getD_some]
 omega

structure SrcOK (n : Nat) (s : SrcD) : Prop where
 code : BytesI s.1
 at0 : 0 ≤ s.2.1
 at1 : s.2.1 + (n : Int) ≤ 1000000000000000000

theorem SrcOK.mono {n m : Nat} {s : SrcD} (h : SrcOK n s) (hm : m ≤ n) : SrcOK m s := ⟨h.code, h.at0, by have := h.at1; omega⟩

theorem SrcOK.from {c : List Int} (h : BytesI c) : spec_l00From c = some (c, (0 : Int), (0 : Int)) ∧ SrcOK 1000000000000000000 (c, (0 : Int), (0 : Int)) := ⟨rfl, h, Int.le_refl _, by simp⟩

theorem byte64 (x : Int) (h : 0 ≤ x ∧ x ≤ 255) : IntKind.wrap .i64 x = x := i64_in _ (by omega)

theorem low255 (z : Int) : ∃ y : Int, IntKind.wrap .i64 (IntKind.wrap .u64 (((BitVec.ofInt (IntKind.bits .u64) z &&& BitVec.ofInt (IntKind.bits .u64) (255 : Int)).toNat : Nat) : Int)) = y ∧ 0 ≤ y ∧ y ≤ 255 := by
 have h1 : (BitVec.ofInt (IntKind.bits .u64) z &&& BitVec.ofInt (IntKind.bits .u64) (255 : Int)).toNat ≤ 255 := by
  rw [BitVec.toNat_and]
  refine Nat.le_trans Nat.and_le_right ?_
  decide
 generalize (BitVec.ofInt (IntKind.bits .u64) z &&& BitVec.ofInt (IntKind.bits .u64) (255 : Int)).toNat = q at h1
 have h2 : IntKind.wrap .u64 ((q : Nat) : Int) = (q : Int) := by
  unfold IntKind.wrap
  simp only [IntKind.bits, IntKind.signed, Bool.false_and, Bool.false_eq_true, if_false]
  omega
 rw [h2, i64_in _ (by omega)]
 exact ⟨_, rfl, by omega, by omega⟩

theorem next_ok {n : Nat} {s : SrcD} (h : SrcOK (n + 1) s) : ∃ x s', spec_l00Src_next s = some (x, s') ∧ 0 ≤ x ∧ x ≤ 255 ∧ SrcOK n s' := by
 obtain ⟨c, a, z⟩ := s
 obtain ⟨hc, h0, h1⟩ := h
 have h0 : 0 ≤ a := h0
 have h1 : a + ((n + 1 : Nat) : Int) ≤ 1000000000000000000 := h1
 have e1 : wadd .i64 a 1 = a + 1 := waddI (by omega)
 unfold spec_l00Src_next
 simp only [e1]
 have hs : ∀ z', SrcOK n (c, a + 1, z') := fun z' => ⟨hc, by show 0 ≤ a + 1; omega, by show a + 1 + (n : Int) ≤ _; omega⟩
 have key : ∀ v : Int, 0 ≤ v ∧ v ≤ 255 → ∃ x s', (bif decide (a + 1 ≤ lenI c) then some (v, c, a + 1, wadd .u64 (wadd .u64 (wmul .u64 z 6364136223846793005) (IntKind.wrap .u64 v)) 1442695040888963407)
   else (some (IntKind.wrap .i64 (IntKind.wrap .u64 (((BitVec.ofInt (IntKind.bits .u64) (Int.fdiv (wadd .u64 (wadd .u64 (wmul .u64 z 6364136223846793005) (IntKind.wrap .u64 v)) 1442695040888963407) (2 ^ (min (Int.toNat (40 : Int)) (IntKind.bits .u64)))) &&& BitVec.ofInt (IntKind.bits .u64) (255 : Int)).toNat : Nat) : Int)))).bind fun q5 =>
    some (q5, c, a + 1, wadd .u64 (wadd .u64 (wmul .u64 z 6364136223846793005) (IntKind.wrap .u64 v)) 1442695040888963407)) = some (x, s') ∧ 0 ≤ x ∧ x ≤ 255 ∧ SrcOK n s' := by
  intro v hv
  cases decide (a + 1 ≤ lenI c) with
  | true => exact ⟨_, _, rfl, hv.1, hv.2, hs _⟩
  | false =>
   obtain ⟨y, e, y1, y2⟩ := low255 (Int.fdiv (wadd .u64 (wadd .u64 (wmul .u64 z 6364136223846793005) (IntKind.wrap .u64 v)) 1442695040888963407) (2 ^ (min (Int.toNat (40 : Int)) (IntKind.bits .u64))))
   rw [e]
   exact ⟨_, _, rfl, y1, y2, hs _⟩
 by_cases hlt : a < lenI c
 ·have hi : a.toNat < c.length := by simp only [lenI] at hlt; omega
  have hb := hc.2 a.toNat hi
  simp only [hlt, decide_true, cond_true]
  rw [guard_pos ⟨h0, trivial⟩, byte64 _ hb]
  exact key _ hb
 ·simp only [hlt, decide_false, cond_false]
  exact key 0 (by omega)

theorem tmod_in {x n : Int} (hx : 0 ≤ x) (hn : 0 < n) : 0 ≤ Int.tmod x n ∧ Int.tmod x n < n := by
 rw [Int.tmod_eq_emod_of_nonneg hx]
 exact ⟨Int.emod_nonneg _ (by omega), Int.emod_lt_of_pos _ hn⟩

theorem pick_ok {n : Nat} {s : SrcD} (h : SrcOK (n + 2) s) (k : Int) : ∃ x s', spec_l00Src_pick s k = some (x, s') ∧ 0 ≤ x ∧ (x < k ∨ x = 0) ∧ SrcOK n s' := by
 unfold spec_l00Src_pick
 by_cases h1 : k ≤ 1
 ·simp only [h1, decide_true, cond_true]
  exact ⟨_, _, rfl, Int.le_refl _, .inr rfl, h.mono (by omega)⟩
 ·simp only [h1, decide_false, cond_false]
  obtain ⟨x, s1, e1, x1, x2, o1⟩ := next_ok h
  simp only [e1, Option.bind_some]
  by_cases h2 : k > 200
  ·obtain ⟨y, s2, e2, y1, y2, o2⟩ := next_ok o1
   have e3 : wmul .i64 x 256 = x * 256 := wmulI (by omega)
   have e4 : wadd .i64 (x * 256) y = x * 256 + y := waddI (by omega)
   simp only [h2, decide_true, cond_true, e2, Option.bind_some, e3, e4]
   rw [guard_pos (by omega)]
   have := tmod_in (x := x * 256 + y) (n := k) (by omega) (by omega)
   exact ⟨_, _, rfl, this.1, .inl this.2, o2⟩
  ·simp only [h2, decide_false, cond_false, Option.bind_some]
   rw [guard_pos (by omega)]
   have := tmod_in (x := x) (n := k) (by omega) (by omega)
   exact ⟨_, _, rfl, this.1, .inl this.2, o1.mono (by omega)⟩

theorem b10At_ok {c : List Int} (hc : BytesI c) {i n : Int} (hi : 0 ≤ i ∧ i ≤ 1000000000000) : ∃ x, laws_b10At c i n = some x ∧ 0 ≤ x ∧ (x < n ∨ x = 0) := by
 unfold laws_b10At
 by_cases h1 : n ≤ 1
 ·simp only [h1, decide_true, cond_true]
  exact ⟨_, rfl, Int.le_refl _, .inr rfl⟩
 ·simp only [h1, decide_false, cond_false]
  by_cases hlt : i < lenI c
  ·have hj : i.toNat < c.length := by simp only [lenI] at hlt; omega
   have hb := hc.2 i.toNat hj
   simp only [hlt, decide_true, cond_true]
   rw [guard_pos ⟨hi.1, trivial⟩, guard_pos (by omega), byte64 _ hb]
   have := tmod_in (x := c.getD i.toNat 0) (n := n) hb.1 (by omega)
   exact ⟨_, rfl, this.1, .inl this.2⟩
  ·simp only [hlt, decide_false, cond_false]
   rw [guard_pos (by omega), wmulI (by omega), waddI (by omega)]
   have := tmod_in (x := i * 37 + 11) (n := n) (by omega) (by omega)
   exact ⟨_, rfl, this.1, .inl this.2⟩

end Go.Proofs


/-
 A plain machine is drawn.
-/
namespace Go.Proofs
open Go.Ide Go.IntWalk

theorem getD_app {α : Type} {xs ys : List α} {i : Nat} {d : α} : (xs ++ ys).getD i d = if i < xs.length then xs.getD i d else ys.getD (i - xs.length) d := by
 split
 ·rename_i h; rw [List.getD_eq_getElem?_getD, List.getElem?_append_left h, List.getD_eq_getElem?_getD]
 ·rename_i h; rw [List.getD_eq_getElem?_getD, List.getElem?_append_right (by omega), List.getD_eq_getElem?_getD]

theorem drawWord {c k : Nat} {code : List Int} (c1 : 1 ≤ c) (hk : k ≤ 100) (hb : BytesI code) : ∃ w, spec_B10Word code (c : Int) (k : Int) = some w ∧ w.length = k ∧ Letters c w := by
 obtain ⟨ef, of⟩ := SrcOK.from hb
 obtain ⟨r, er, r1, r2⟩ := rounds_inv (f := spec_l07DrawWord_B1 (c : Int)) (fun a st => ∃ (s : SrcD) (out : List Int), st = ((a : Int), s, out) ∧ a + out.length = k ∧ SrcOK (a * 2) s ∧ Letters c out)
  (fun r => r.2.length = k ∧ Letters c r.2) (by
   rintro a st ⟨s, out, rfl, ha, hs, ho⟩
   unfold spec_l07DrawWord_B1
   by_cases h0 : a = 0
   ·subst h0
    have hd : decide (((0 : Nat) : Int) > (0 : Int)) = false := by simp
    simp only [hd, cond_false]
    exact .inr ⟨_, rfl, by show out.length = _; omega, ho⟩
   ·have hd : decide ((a : Int) > (0 : Int)) = true := by simp; omega
    obtain ⟨x, s', e, x1, x2, o⟩ := pick_ok (n := (a - 1) * 2) (hs.mono (by omega)) (c : Int)
    have e1 : wsub .i64 (a : Int) 1 = ((a - 1 : Nat) : Int) := by rw [wsubI (by omega)]; omega
    simp only [hd, cond_true, e, Option.bind_some, e1]
    rw [guard_pos (by simp only [List.length_cons, List.length_nil, appMax]; omega)]
    refine .inl ⟨a - 1, _, by omega, rfl, s', out ++ [x], rfl, by simp; omega, o, fun i hi => ?_⟩
    rw [getD_app]
    split
    ·rename_i hi2; exact ho i hi2
    ·have : i - out.length = 0 := by simp at hi; omega
     rw [this]
     exact ⟨x.toNat, by show x = _; omega, by omega⟩) k ((k : Int), (code, (0 : Int), (0 : Int)), ([] : List Int)) ⟨_, [], rfl, by simp, of.mono (by omega), fun i hi => by simp at hi⟩
 refine ⟨r.2, ?_, r1, r2⟩
 unfold spec_B10Word spec_l07DrawWord
 simp only [ef, er, Option.bind_some]

end Go.Proofs


/-
 Numbers that are the same, nearly: after k roundings.
-/
namespace Go.Proofs

def Near (k a b : Nat) : Prop := a * 8388608 ^ k ≤ b * 8388609 ^ k ∧ b * 8388608 ^ k ≤ a * 8388609 ^ k

theorem DU (k : Nat) : 8388608 ^ k ≤ 8388609 ^ k := Nat.pow_le_pow_left (by omega) k

theorem Near.refl (k a : Nat) : Near k a a := ⟨Nat.mul_le_mul_left _ (DU k), Nat.mul_le_mul_left _ (DU k)⟩
theorem Near.symm {k a b : Nat} (h : Near k a b) : Near k b a := ⟨h.2, h.1⟩
theorem Near.of_eq {k a b : Nat} (h : a = b) : Near k a b := h ▸ Near.refl k a

theorem near_mul1 {k l a b c d : Nat} (h : a * 8388608 ^ k ≤ b * 8388609 ^ k) (h' : c * 8388608 ^ l ≤ d * 8388609 ^ l) : a * c * 8388608 ^ (k + l) ≤ b * d * 8388609 ^ (k + l) := by
 rw [Nat.pow_add, Nat.pow_add]
 calc a * c * (8388608 ^ k * 8388608 ^ l) = a * 8388608 ^ k * (c * 8388608 ^ l) := by ac_rfl
  _ ≤ b * 8388609 ^ k * (d * 8388609 ^ l) := Nat.mul_le_mul h h'
  _ = b * d * (8388609 ^ k * 8388609 ^ l) := by ac_rfl

theorem Near.mul {k l a b c d : Nat} (h : Near k a b) (h' : Near l c d) : Near (k + l) (a * c) (b * d) := ⟨near_mul1 h.1 h'.1, near_mul1 h.2 h'.2⟩

theorem near_tr1 {k l a b c : Nat} (h : a * 8388608 ^ k ≤ b * 8388609 ^ k) (h' : b * 8388608 ^ l ≤ c * 8388609 ^ l) : a * 8388608 ^ (k + l) ≤ c * 8388609 ^ (k + l) := by
 rw [Nat.pow_add, Nat.pow_add]
 calc a * (8388608 ^ k * 8388608 ^ l) = a * 8388608 ^ k * 8388608 ^ l := by ac_rfl
  _ ≤ b * 8388609 ^ k * 8388608 ^ l := Nat.mul_le_mul_right _ h
  _ = b * 8388608 ^ l * 8388609 ^ k := by ac_rfl
  _ ≤ c * 8388609 ^ l * 8388609 ^ k := Nat.mul_le_mul_right _ h'
  _ = c * (8388609 ^ k * 8388609 ^ l) := by ac_rfl

theorem Near.trans {k l a b c : Nat} (h : Near k a b) (h' : Near l b c) : Near (k + l) a c := ⟨near_tr1 h.1 h'.1, by have := near_tr1 h'.2 h.2; rwa [Nat.add_comm l k] at this⟩

theorem Near.mono {k l a b : Nat} (h : Near k a b) (hl : k ≤ l) : Near l a b := by
 have := h.trans (Near.refl (l - k) b)
 rwa [show k + (l - k) = l by omega] at this

theorem Near.add {k a b c d : Nat} (h : Near k a b) (h' : Near k c d) : Near k (a + c) (b + d) := ⟨by rw [Nat.add_mul, Nat.add_mul]; exact Nat.add_le_add h.1 h'.1, by rw [Nat.add_mul, Nat.add_mul]; exact Nat.add_le_add h.2 h'.2⟩

theorem Near.mulr {k a b : Nat} (h : Near k a b) (c : Nat) : Near k (a * c) (b * c) := h.mul (Near.refl 0 c)
theorem Near.cancel {k a b c : Nat} (h : Near k (a * c) (b * c)) (hc : 0 < c) : Near k a b := by
 obtain ⟨h1, h2⟩ := h
 refine ⟨Nat.le_of_mul_le_mul_right (c := c) ?_ hc, Nat.le_of_mul_le_mul_right (c := c) ?_ hc⟩
 ·calc a * 8388608 ^ k * c = a * c * 8388608 ^ k := by ac_rfl
   _ ≤ b * c * 8388609 ^ k := h1
   _ = b * 8388609 ^ k * c := by ac_rfl
 ·calc b * 8388608 ^ k * c = b * c * 8388608 ^ k := by ac_rfl
   _ ≤ a * c * 8388609 ^ k := h2
   _ = a * 8388609 ^ k * c := by ac_rfl

theorem near_fin : 8388609 ^ 200 * 10000 ≤ 8388608 ^ 200 * 10001 := by decide

theorem Near.le {k a b : Nat} (h : Near k a b) (hk : k ≤ 200) : a * 10000 ≤ b * 10001 := by
 have h1 := (h.mono hk).1
 have hp : 0 < 8388608 ^ 200 := Nat.pow_pos (by omega)
 refine Nat.le_of_mul_le_mul_right (c := 8388608 ^ 200) ?_ hp
 calc a * 10000 * 8388608 ^ 200 = a * 8388608 ^ 200 * 10000 := by ac_rfl
  _ ≤ b * 8388609 ^ 200 * 10000 := Nat.mul_le_mul_right _ h1
  _ = b * (8388609 ^ 200 * 10000) := by ac_rfl
  _ ≤ b * (8388608 ^ 200 * 10001) := Nat.mul_le_mul_left _ near_fin
  _ = b * 10001 * 8388608 ^ 200 := by ac_rfl

def sumN (f : Nat → Nat) : Nat → Nat
 | 0 => 0
 | n + 1 => sumN f n + f n

theorem near_sum {k : Nat} {f g : Nat → Nat} : ∀ n, (∀ i, i < n → Near k (f i) (g i)) → Near k (sumN f n) (sumN g n)
 | 0, _ => Near.refl _ _
 | n + 1, h => (near_sum n fun i hi => h i (by omega)).add (h n (by omega))

theorem sumN_mul (f : Nat → Nat) (c : Nat) : ∀ n, sumN f n * c = sumN (fun i => f i * c) n
 | 0 => by simp [sumN]
 | n + 1 => by rw [sumN, Nat.add_mul, sumN_mul f c n]; rfl

theorem sumN_le {f : Nat → Nat} {c : Nat} : ∀ n, (∀ i, i < n → f i ≤ c) → sumN f n ≤ n * c
 | 0, _ => by simp [sumN]
 | n + 1, h => by
  have := sumN_le n fun i hi => h i (by omega)
  have := h n (by omega)
  rw [sumN, Nat.succ_mul]; omega

end Go.Proofs


/-
 Floats of 32 bits above nought: what is computed is nearly what it stands for.
-/
namespace Go.Proofs
open Go.Ide

theorem cut_near (n d : Nat) : 2 * (Ieee.Toward.cut .even false n d * 2 ^ d) ≤ 2 * n + 2 ^ d ∧ 2 * n ≤ 2 * (Ieee.Toward.cut .even false n d * 2 ^ d) + 2 ^ d := by
 rw [cut_full]
 have hp := pow_pos2 d
 generalize 2 ^ d = g at *
 have h1 := Nat.div_add_mod n g
 have h2 := Nat.mod_lt n hp
 generalize n / g = q at *
 generalize n % g = r at *
 have e : (q + (decide (g < 2 * r) || g == 2 * r && q % 2 == 1).toNat) * g = g * q + (decide (g < 2 * r) || g == 2 * r && q % 2 == 1).toNat * g := by rw [Nat.add_mul, Nat.mul_comm q g]
 rw [e]
 by_cases c1 : g < 2 * r
 ·rw [decide_eq_true c1]
  simp only [Bool.true_or, Bool.toNat_true, Nat.one_mul]
  omega
 ·rw [decide_eq_false c1, Bool.false_or]
  by_cases c2 : g = 2 * r
  ·cases (g == 2 * r && q % 2 == 1) <;> simp only [Bool.toNat_true, Bool.toNat_false, Nat.one_mul, Nat.zero_mul] <;> omega
  ·have : (g == 2 * r) = false := beq_eq_false_iff_ne.2 c2
   rw [this]
   simp only [Bool.false_and, Bool.toNat_false, Nat.zero_mul]
   omega

theorem V_code {t k : Nat} (h1 : 8388608 ≤ k) (h2 : k ≤ 16777216) (h3 : t * 8388608 + k < 2147483648) : V32 (t * 8388608 + k) = k * 2 ^ t := by
 unfold V32
 rw [Nat.mod_eq_of_lt h3, if_neg (by omega)]
 by_cases e : k = 16777216
 ·subst e
  rw [show (t * 8388608 + 16777216) % 8388608 = 0 by omega, show (t * 8388608 + 16777216) / 8388608 - 1 = t + 1 by omega, Nat.pow_succ]
  omega
 ·rw [show (t * 8388608 + k) % 8388608 = k - 8388608 by omega, show (t * 8388608 + k) / 8388608 - 1 = t by omega, show 8388608 + (k - 8388608) = k by omega]

theorem near_half {k g u : Nat} (hk : 8388608 ≤ k) (h : 2 * (k * g) ≤ 2 * u + g ∧ 2 * u ≤ 2 * (k * g) + g) : Near 1 (k * g) u := by
 unfold Near
 rw [Nat.pow_one, Nat.pow_one]
 have hg : 8388608 * g ≤ k * g := Nat.mul_le_mul_right _ hk
 generalize k * g = K at *
 omega

theorem min_less {a b : Nat} (h : min a b < b) : min a b = a ∧ a < b := by
 rcases Nat.le_total a b with h1 | h1
 ·rw [Nat.min_eq_left h1] at h ⊢
  exact ⟨rfl, h⟩
 ·rw [Nat.min_eq_right h1] at h
  exact absurd h (Nat.lt_irrefl _)

theorem near_core {k d t s u : Nat} (h1 : 8388608 ≤ k) (h2 : k ≤ 16777216) (hc : 2 * (k * 2 ^ d) ≤ 2 * u + 2 ^ d ∧ 2 * u ≤ 2 * (k * 2 ^ d) + 2 ^ d) (hf : min (t * 8388608 + k) 2139095040 < 2139095040) (hd : t + s = d) : Near 1 (V32 (min (t * 8388608 + k) 2139095040) * 2 ^ s) u := by
 obtain ⟨hm, hlt⟩ := min_less hf
 rw [hm, V_code h1 h2 (Nat.lt_trans hlt (by decide)), Nat.mul_assoc, ← Nat.pow_add, hd]
 exact near_half h1 hc

theorem RN_near {u s : Nat} (h : 2 ^ (23 + s) ≤ u) (hf : RN u (-149 - (s : Int)) < 2139095040) : Near 1 (V32 (RN u (-149 - (s : Int))) * 2 ^ s) u := by
 have h0 : u ≠ 0 := by have := pow_pos2 (23 + s); omega
 have hl : 23 + s ≤ u.log2 := (Nat.le_log2 h0).2 h
 have hk := kept_ge (neg := false) (mag := u) (f := 23) (p := -149 - (s : Int)) (last := -149 - (s : Int) + (u.log2 : Int) - ((23 : Nat) : Int)) h0 rfl
 have hk2 := kept_le (neg := false) (mag := u) (f := 23) (p := -149 - (s : Int)) (last := -149 - (s : Int) + (u.log2 : Int) - ((23 : Nat) : Int)) (by omega)
 have e24 : (2 : Nat) ^ (23 + 1) = 16777216 := by decide
 have e23 : (2 : Nat) ^ 23 = 8388608 := by decide
 rw [e23] at hk
 rw [e24] at hk2
 have hfr : Ieee.single.fractionBits = 23 := rfl
 have hlast : max (-149 - (s : Int) + (u.log2 : Int) - ((23 : Nat) : Int)) (-149) = -149 - (s : Int) + (u.log2 : Int) - ((23 : Nat) : Int) := by omega
 have e1 : (-149 - (s : Int) - (-149 - (s : Int) + (u.log2 : Int) - ((23 : Nat) : Int))).toNat = 0 := by omega
 have e2 : (-149 - (s : Int) + (u.log2 : Int) - ((23 : Nat) : Int) - (-149 - (s : Int))).toNat = u.log2 - 23 := by omega
 have e3 : (-149 - (s : Int) + (u.log2 : Int) - ((23 : Nat) : Int) - -149).toNat = u.log2 - 23 - s := by omega
 rw [e1, e2, Nat.shiftLeft_zero] at hk hk2
 have hR : RN u (-149 - (s : Int)) = min ((u.log2 - 23 - s) * 8388608 + Ieee.Toward.cut .even false u (u.log2 - 23)) 2139095040 := by
  unfold RN Ieee.Format.nearest
  rw [if_neg h0]
  have hw : ∀ r, Ieee.single.word false r = r := fun r => rfl
  simp only [lp32, bi32, ir32, hfr]
  rw [hw, hlast, e1, e2, e3, Nat.shiftLeft_zero]
 rw [hR] at hf ⊢
 exact near_core hk hk2 (cut_near u (u.log2 - 23)) hf (by omega)

def pw (m : Nat) : Nat := (m - 22) * 8388608

theorem V_pw {m : Nat} (h1 : 23 ≤ m) (h2 : m ≤ 276) : V32 (pw m) = 2 ^ m := by
 unfold V32 pw
 rw [Nat.mod_eq_of_lt (by omega), if_neg (by omega), show (m - 22) * 8388608 % 8388608 = 0 by omega, show (m - 22) * 8388608 / 8388608 - 1 = m - 23 by omega, Nat.add_zero, show (8388608 : Nat) = 2 ^ 23 from rfl, ← Nat.pow_add, show 23 + (m - 23) = m by omega]

theorem RN_pw {m s : Nat} (h1 : 23 ≤ m) (h2 : m ≤ 276) : RN (2 ^ (m + s)) (-149 - (s : Int)) = pw m := by
 rw [Nat.pow_add, RN_scale, ← V_pw h1 h2]
 have hb : bd (pw m) (m - 22) := by unfold bd pw; omega
 by_cases e : m = 23
 ·subst e; decide
 ·rw [RN_V hb (by omega) (by omega)]
  exact Nat.mod_eq_of_lt (by unfold pw; omega)

structure Rg (a b x : Nat) : Prop where
 fin : x ≤ 2130706432
 lo : 2 ^ a ≤ V32 x
 hi : V32 x ≤ 2 ^ b

theorem Rg.bd {a b x : Nat} (h : Rg a b x) : bd x 254 := by have := h.fin; unfold Go.Ide.bd; omega
theorem Rg.mono {a b c d x : Nat} (h : Rg a b x) (h1 : c ≤ a) (h2 : b ≤ d) : Rg c d x := ⟨h.fin, Nat.le_trans (Nat.pow_le_pow_right (by omega) h1) h.lo, Nat.le_trans h.hi (Nat.pow_le_pow_right (by omega) h2)⟩

theorem RN_ge {u m s : Nat} (h1 : 23 ≤ m) (h2 : m ≤ 276) (h : 2 ^ (m + s) ≤ u) : pw m ≤ RN u (-149 - (s : Int)) := by
 rw [← RN_pw (s := s) h1 h2]; exact RN_mono h
theorem RN_le {u m s : Nat} (h1 : 23 ≤ m) (h2 : m ≤ 276) (h : u ≤ 2 ^ (m + s)) : RN u (-149 - (s : Int)) ≤ pw m := by
 rw [← RN_pw (s := s) h1 h2]; exact RN_mono h

theorem RN_rg {u a b s : Nat} (h1 : 23 ≤ a) (h2 : a ≤ 276) (h3 : 23 ≤ b) (h4 : b ≤ 275) (hl : 2 ^ (a + s) ≤ u) (hh : u ≤ 2 ^ (b + s)) : Rg a b (RN u (-149 - (s : Int))) ∧ Near 1 (V32 (RN u (-149 - (s : Int))) * 2 ^ s) u := by
 have q1 := RN_ge h1 h2 hl
 have q2 := RN_le h3 (by omega) hh
 have q3 : pw b ≤ 2130706432 := by unfold pw; omega
 refine ⟨⟨by omega, ?_, ?_⟩, RN_near (Nat.le_trans (Nat.pow_le_pow_right (by omega) (by omega)) hl) (by omega)⟩
 ·rw [← V_pw h1 h2]; exact V_mono (by omega) (by omega) q1
 ·rw [← V_pw h3 (by omega)]; exact V_mono (by omega) (by omega) q2

theorem read_pos {x : Nat} (h : x ≤ 2130706432) : ∃ m i, Ieee.single.read x = .number false m (-149 + ((i : Nat) : Int)) ∧ V32 x = m * 2 ^ i := by
 have hb : bd x 254 := by unfold bd; omega
 obtain ⟨m, i, e, v⟩ := read_V hb (by omega) (by omega)
 have : (x / 2147483648 % 2 == 1) = false := by rw [Nat.div_eq_of_lt (by omega)]; rfl
 rw [this] at e
 exact ⟨m, i, e, v⟩

theorem mul_val {x y : Nat} (hx : x ≤ 2130706432) (hy : y ≤ 2130706432) : fop .mul .f32 x y = RN (V32 x * V32 y) (-149 - ((149 : Nat) : Int)) := by
 obtain ⟨m, i, e1, v1⟩ := read_pos hx
 obtain ⟨n, j, e2, v2⟩ := read_pos hy
 have e3 : floatBits .mul .f32 x y = some (RN (m * n) (-298 + ((i + j : Nat) : Int))) := by
  show Ieee.single.mul x y = _
  unfold Ieee.Format.mul
  rw [e1, e2]
  show some (Ieee.single.nearest _ (m * n) (-149 + (i : Int) + (-149 + (j : Int)))) = _
  rw [show -149 + (i : Int) + (-149 + (j : Int)) = -298 + ((i + j : Nat) : Int) by omega]
  rfl
 unfold fop
 rw [e3]
 simp only
 rw [canon_RN, v1, v2]
 have := RN_scale (m * n) (i + j) (-298 + ((i + j : Nat) : Int))
 rw [show -298 + ((i + j : Nat) : Int) - ((i + j : Nat) : Int) = -149 - ((149 : Nat) : Int) by omega] at this
 rw [← this]
 congr 1
 rw [Nat.pow_add]; ac_rfl

theorem mul_rg {a b c d x y : Nat} (hx : Rg a b x) (hy : Rg c d y) (h1 : 172 ≤ a + c) (h2 : b + d ≤ 424) (h3 : a + c ≤ 425) (h4 : 172 ≤ b + d) : Rg (a + c - 149) (b + d - 149) (fop .mul .f32 x y) ∧ Near 1 (V32 (fop .mul .f32 x y) * 2 ^ 149) (V32 x * V32 y) := by
 rw [mul_val hx.fin hy.fin]
 refine RN_rg (by omega) (by omega) (by omega) (by omega) ?_ ?_
 ·rw [show a + c - 149 + 149 = a + c by omega, Nat.pow_add]; exact Nat.mul_le_mul hx.lo hy.lo
 ·rw [show b + d - 149 + 149 = b + d by omega, Nat.pow_add]; exact Nat.mul_le_mul hx.hi hy.hi

theorem add_val {x y : Nat} (hx : x ≤ 2130706432) (hy : y ≤ 2130706432) : fop .add .f32 x y = RN (V32 x + V32 y) (-149) := by
 refine add_nn (a := 254) (by unfold bd; omega) (by unfold bd; omega) (by omega) (by omega) (by unfold pos32; omega) (by unfold nn; omega)

theorem add_rg {b x y : Nat} (hx : x ≤ 2130706432) (hy : y ≤ 2130706432) (hb : 23 ≤ b) (hb2 : b ≤ 274) (h1 : V32 x ≤ 2 ^ b) (h2 : V32 y ≤ 2 ^ b) :
  fop .add .f32 x y ≤ 2130706432 ∧ V32 (fop .add .f32 x y) ≤ 2 ^ (b + 1) ∧ Near 1 (V32 (fop .add .f32 x y)) (V32 x + V32 y) ∧ x ≤ fop .add .f32 x y ∧ y ≤ fop .add .f32 x y := by
 rw [add_val hx hy]
 have e0 : (-149 : Int) = -149 - ((0 : Nat) : Int) := by omega
 have hle : RN (V32 x + V32 y) (-149) ≤ pw (b + 1) := by
  rw [e0]
  exact RN_le (by omega) (by omega) (by rw [Nat.add_zero, Nat.pow_succ]; omega)
 have hpw : pw (b + 1) ≤ 2130706432 := by unfold pw; omega
 have hx2 : x = RN (V32 x) (-149) := by rw [RN_V (K := 254) (by unfold bd; omega) (by omega) (by omega), Nat.mod_eq_of_lt (by omega)]
 have hy2 : y = RN (V32 y) (-149) := by rw [RN_V (K := 254) (by unfold bd; omega) (by omega) (by omega), Nat.mod_eq_of_lt (by omega)]
 refine ⟨by omega, ?_, ?_, ?_, ?_⟩
 ·rw [← V_pw (m := b + 1) (by omega) (by omega)]; exact V_mono (by omega) (by omega) hle
 ·by_cases hs : 2 ^ (23 + 0) ≤ V32 x + V32 y
  ·have := RN_near (s := 0) hs (by rw [← e0]; omega)
   rw [← e0, Nat.pow_zero, Nat.mul_one] at this
   exact this
  ·have hs : V32 x + V32 y < 8388608 := by
    have : (2 : Nat) ^ (23 + 0) = 8388608 := by decide
    omega
   have hv : V32 (V32 x + V32 y) = V32 x + V32 y := by
    have : V32 (V32 x + V32 y) = if (V32 x + V32 y) % 2147483648 < 8388608 then (V32 x + V32 y) % 2147483648 else (8388608 + (V32 x + V32 y) % 2147483648 % 8388608) * 2 ^ ((V32 x + V32 y) % 2147483648 / 8388608 - 1) := rfl
    rw [this, Nat.mod_eq_of_lt (by omega), if_pos hs]
   have := RN_V (x := V32 x + V32 y) (K := 2) (by unfold bd; omega) (by omega) (by omega)
   rw [hv, Nat.mod_eq_of_lt (by omega)] at this
   rw [this, hv]
   exact Near.refl _ _
 ·conv => lhs; rw [hx2]
  exact RN_mono (by omega)
 ·conv => lhs; rw [hy2]
  exact RN_mono (by omega)

theorem near_quo {m n M : Nat} (hn : 0 < n) (hM : 8388608 * n ≤ m * M) : Near 1 ((2 * (m * M / n) + (m * M % n != 0).toNat) * n) (2 * (m * M)) := by
 have h1 := Nat.div_add_mod (m * M) n
 have h2 := Nat.mod_lt (m * M) hn
 generalize m * M = z at *
 have hb : (z % n = 0 ∧ (z % n != 0).toNat = 0) ∨ (0 < z % n ∧ (z % n != 0).toNat = 1) := by
  by_cases e : z % n = 0
  ·exact .inl ⟨e, by rw [e]; rfl⟩
  ·refine .inr ⟨by omega, ?_⟩
   have : (z % n != 0) = true := by simpa using e
   rw [this]; rfl
 unfold Near
 rw [Nat.pow_one, Nat.pow_one, Nat.add_mul, Nat.mul_assoc 2 (z / n) n, Nat.mul_comm (z / n) n]
 generalize n * (z / n) = q at *
 rcases hb with ⟨e, e2⟩ | ⟨e, e2⟩ <;> rw [e2]
 ·omega
 ·rw [Nat.one_mul]; omega

theorem quo_rg {a b c d x y : Nat} (hx : Rg a b x) (hy : Rg c d y) (h1 : d ≤ a + 125) (h2 : b ≤ c + 125) (h3 : c ≤ b + 120) :
  fop .quo .f32 x y ≤ 2130706432 ∧ Near 2 (V32 (fop .quo .f32 x y) * V32 y) (V32 x * 2 ^ 149) := by
 obtain ⟨m, i, e1, v1⟩ := read_pos hx.fin
 obtain ⟨n, j, e2, v2⟩ := read_pos hy.fin
 have xl := hx.lo
 have xh := hx.hi
 have yl := hy.lo
 have yh := hy.hi
 rw [v1] at xl xh
 rw [v2] at yl yh
 have hn : n ≠ 0 := by
  rintro rfl
  have := pow_pos2 c
  omega
 have hm : m ≠ 0 := by
  rintro rfl
  have := pow_pos2 a
  omega
 have hf : Ieee.single.fractionBits = 23 := rfl
 have e3 : floatBits .quo .f32 x y = some (RN (2 * (m * 2 ^ (23 + 2 + n.log2 - m.log2) / n) + (m * 2 ^ (23 + 2 + n.log2 - m.log2) % n != 0).toNat) (-149 + (i : Int) - (-149 + (j : Int)) - ((23 + 2 + n.log2 - m.log2 : Nat) : Int) - 1)) := by
  show Ieee.single.div x y = _
  unfold Ieee.Format.div
  rw [e1, e2]
  unfold Ieee.Datum.quotient
  simp only [hf, Nat.shiftLeft_eq]
  rw [if_neg hn]
  rfl
 unfold fop
 rw [e3]
 simp only
 rw [canon_RN]
 have hlm : m < 2 ^ (m.log2 + 1) := Nat.lt_log2_self
 have hlm2 := Nat.log2_self_le hm
 have hln := Nat.log2_self_le hn
 have hln2 : n < 2 ^ (n.log2 + 1) := Nat.lt_log2_self
 have hmlog : m.log2 ≤ 23 := by
  have := read_small e1
  have := (Nat.log2_lt (k := 24) hm).2 (by omega); omega
 have hbig : 8388608 * n ≤ m * 2 ^ (23 + 2 + n.log2 - m.log2) := by
  have q1 : 2 ^ m.log2 * 2 ^ (23 + 2 + n.log2 - m.log2) ≤ m * 2 ^ (23 + 2 + n.log2 - m.log2) := Nat.mul_le_mul_right _ hlm2
  rw [← Nat.pow_add, show m.log2 + (23 + 2 + n.log2 - m.log2) = 24 + (n.log2 + 1) by omega, Nat.pow_add] at q1
  have e24 : (2 : Nat) ^ 24 = 16777216 := by decide
  rw [e24] at q1
  omega
 generalize 23 + 2 + n.log2 - m.log2 = more at *
 have hnear := near_quo (Nat.pos_of_ne_zero hn) hbig
 have hQlo : m * 2 ^ more ≤ (2 * (m * 2 ^ more / n) + (m * 2 ^ more % n != 0).toNat) * n ∧ (2 * (m * 2 ^ more / n) + (m * 2 ^ more % n != 0).toNat) * n ≤ 4 * (m * 2 ^ more) := by
  have := hnear
  unfold Near at this
  rw [Nat.pow_one, Nat.pow_one] at this
  generalize (2 * (m * 2 ^ more / n) + (m * 2 ^ more % n != 0).toNat) * n = A at *
  generalize m * 2 ^ more = B at *
  omega
 generalize 2 * (m * 2 ^ more / n) + (m * 2 ^ more % n != 0).toNat = Q at *
 have hsc : RN Q (-149 + (i : Int) - (-149 + (j : Int)) - (more : Int) - 1) = RN (Q * 2 ^ (149 + i)) (-149 - ((j + more + 1 : Nat) : Int)) := by
  rw [← RN_scale Q (149 + i)]
  congr 1
  omega
 rw [hsc]
 -- bounds
 have lo1 : 2 ^ (a + 149 + more + j) ≤ Q * 2 ^ (149 + i) * 2 ^ d := by
  calc 2 ^ (a + 149 + more + j) = 2 ^ a * (2 ^ 149 * 2 ^ more * 2 ^ j) := by rw [Nat.pow_add, Nat.pow_add, Nat.pow_add]; ac_rfl
   _ ≤ m * 2 ^ i * (2 ^ 149 * 2 ^ more * 2 ^ j) := Nat.mul_le_mul_right _ xl
   _ = m * 2 ^ more * (2 ^ i * 2 ^ 149 * 2 ^ j) := by ac_rfl
   _ ≤ Q * n * (2 ^ i * 2 ^ 149 * 2 ^ j) := Nat.mul_le_mul_right _ hQlo.1
   _ = Q * (2 ^ 149 * 2 ^ i) * (n * 2 ^ j) := by ac_rfl
   _ ≤ Q * (2 ^ 149 * 2 ^ i) * 2 ^ d := Nat.mul_le_mul_left _ yh
   _ = Q * 2 ^ (149 + i) * 2 ^ d := by rw [Nat.pow_add]
 have lo2 : 2 ^ (23 + (j + more + 1)) ≤ Q * 2 ^ (149 + i) := by
  refine Nat.le_of_mul_le_mul_right (c := 2 ^ d) ?_ (pow_pos2 d)
  refine Nat.le_trans ?_ lo1
  rw [← Nat.pow_add]
  exact Nat.pow_le_pow_right (by omega) (by omega)
 have hi1 : Q * 2 ^ (149 + i) * 2 ^ c ≤ 2 ^ (b + 151 + more + j) := by
  calc Q * 2 ^ (149 + i) * 2 ^ c ≤ Q * 2 ^ (149 + i) * (n * 2 ^ j) := Nat.mul_le_mul_left _ yl
   _ = Q * n * (2 ^ 149 * 2 ^ i * 2 ^ j) := by rw [Nat.pow_add]; ac_rfl
   _ ≤ 4 * (m * 2 ^ more) * (2 ^ 149 * 2 ^ i * 2 ^ j) := Nat.mul_le_mul_right _ hQlo.2
   _ = m * 2 ^ i * (2 ^ 2 * 2 ^ 149 * 2 ^ more * 2 ^ j) := by rw [show (4 : Nat) = 2 ^ 2 from rfl]; ac_rfl
   _ ≤ 2 ^ b * (2 ^ 2 * 2 ^ 149 * 2 ^ more * 2 ^ j) := Nat.mul_le_mul_right _ xh
   _ = 2 ^ (b + 151 + more + j) := by rw [← Nat.pow_add, ← Nat.pow_add, ← Nat.pow_add, ← Nat.pow_add]; congr 1; omega
 have hi2 : Q * 2 ^ (149 + i) ≤ 2 ^ (b + 150 - c + (j + more + 1)) := by
  refine Nat.le_of_mul_le_mul_right (c := 2 ^ c) ?_ (pow_pos2 c)
  refine Nat.le_trans hi1 ?_
  rw [← Nat.pow_add]
  exact Nat.pow_le_pow_right (by omega) (by omega)
 have hle := RN_le (m := b + 150 - c) (s := j + more + 1) (by omega) (by omega) hi2
 have hpw : pw (b + 150 - c) ≤ 2130706432 := by unfold pw; omega
 refine ⟨by omega, ?_⟩
 have n1 := RN_near lo2 (by omega)
 generalize V32 (RN (Q * 2 ^ (149 + i)) (-149 - ((j + more + 1 : Nat) : Int))) = v at n1 ⊢
 -- together
 have n2 := (n1.mulr n).trans (by
  have := hnear.mulr (2 ^ (149 + i))
  rwa [Nat.mul_right_comm Q n (2 ^ (149 + i))] at this)
 refine Near.cancel (c := 2 ^ (more + 1)) ?_ (pow_pos2 _)
 rw [v1, v2]
 have ea : v * 2 ^ (j + more + 1) * n = v * (n * 2 ^ j) * 2 ^ (more + 1) := by
  rw [show j + more + 1 = j + (more + 1) by omega, Nat.pow_add]
  generalize 2 ^ (more + 1) = A
  generalize 2 ^ j = B
  ac_rfl
 have eb : 2 * (m * 2 ^ more) * 2 ^ (149 + i) = m * 2 ^ i * 2 ^ 149 * 2 ^ (more + 1) := by
  rw [Nat.pow_add, Nat.pow_succ 2 more]
  generalize 2 ^ more = A
  generalize 2 ^ i = B
  generalize 2 ^ 149 = C
  ac_rfl
 rw [ea, eb] at n2
 exact n2

end Go.Proofs


/-
 Floats above nought: their order; a model that is drawn is a model.
-/
namespace Go.Proofs
open Go.Ide Go.IntWalk

theorem scaled_min {m n i j : Nat} : (m * 2 ^ (-149 + (i : Int) - min (-149 + (i : Int)) (-149 + (j : Int))).toNat ≤ n * 2 ^ (-149 + (j : Int) - min (-149 + (i : Int)) (-149 + (j : Int))).toNat) ↔ m * 2 ^ i ≤ n * 2 ^ j := by
 rw [show (-149 + (i : Int) - min (-149 + (i : Int)) (-149 + (j : Int))).toNat = i - min i j by omega, show (-149 + (j : Int) - min (-149 + (i : Int)) (-149 + (j : Int))).toNat = j - min i j by omega]
 exact scaled_le

theorem order_V {x y : Nat} (hx : x ≤ 2130706432) (hy : y ≤ 2130706432) : Ieee.single.order x y = some (compare ((V32 x : Nat) : Int) ((V32 y : Nat) : Int)) := by
 obtain ⟨m, i, e1, v1⟩ := read_pos hx
 obtain ⟨n, j, e2, v2⟩ := read_pos hy
 have : Ieee.single.order x y = some (compare (Ieee.signed false m (-149 + (i : Int) - min (-149 + (i : Int)) (-149 + (j : Int))).toNat) (Ieee.signed false n (-149 + (j : Int) - min (-149 + (i : Int)) (-149 + (j : Int))).toNat)) := by
  show Ieee.Datum.order (Ieee.single.read x) (Ieee.single.read y) = _
  rw [e1, e2]; rfl
 rw [this, signed_false, signed_false]
 have h1 := scaled_min (m := m) (n := n) (i := i) (j := j)
 have h2 := scaled_min (m := n) (n := m) (i := j) (j := i)
 rw [Int.min_comm] at h2
 rw [← v1, ← v2] at h1 h2
 generalize m * 2 ^ (-149 + (i : Int) - min (-149 + (i : Int)) (-149 + (j : Int))).toNat = A at *
 generalize n * 2 ^ (-149 + (j : Int) - min (-149 + (i : Int)) (-149 + (j : Int))).toNat = B at *
 have hlt : A < B ↔ V32 x < V32 y := by rw [← Nat.not_le, ← Nat.not_le]; exact not_congr h2
 have heq : A = B ↔ V32 x = V32 y := ⟨fun h => Nat.le_antisymm (h1.1 (Nat.le_of_eq h)) (h2.1 (Nat.le_of_eq h.symm)), fun h => Nat.le_antisymm (h1.2 (Nat.le_of_eq h)) (h2.2 (Nat.le_of_eq h.symm))⟩
 simp only [compare, compareOfLessAndEq, Int.ofNat_lt, Int.ofNat_inj, hlt, heq]

theorem fle_V {x y : Nat} (hx : x ≤ 2130706432) (hy : y ≤ 2130706432) : fle .f32 x y = decide (V32 x ≤ V32 y) := by
 show (Ieee.single.order x y == some .lt || Ieee.single.order x y == some .eq) = _
 rw [order_V hx hy, cmp_le, decide_eq_decide]; omega
theorem fge_V {x y : Nat} (hx : x ≤ 2130706432) (hy : y ≤ 2130706432) : fge .f32 x y = decide (V32 y ≤ V32 x) := by
 show (Ieee.single.order x y == some .gt || Ieee.single.order x y == some .eq) = _
 rw [order_V hx hy, cmp_ge, decide_eq_decide]; omega
theorem fgt_V {x y : Nat} (hx : x ≤ 2130706432) (hy : y ≤ 2130706432) : fgt .f32 x y = decide (V32 y < V32 x) := by
 show (Ieee.single.order x y == some .gt) = _
 rw [order_V hx hy]
 simp only [compare, compareOfLessAndEq]
 by_cases c1 : ((V32 x : Nat) : Int) < ((V32 y : Nat) : Int)
 ·rw [if_pos c1, decide_eq_false (by omega)]; rfl
 ·rw [if_neg c1]
  by_cases c2 : ((V32 x : Nat) : Int) = ((V32 y : Nat) : Int)
  ·rw [if_pos c2, decide_eq_false (by omega)]; rfl
  ·rw [if_neg c2, decide_eq_true (by omega)]; rfl

theorem V_zero : V32 0 = 0 := by decide
theorem V_one : V32 1065353216 = 2 ^ 149 := by decide

theorem nearest_neg (mag : Nat) (p : Int) : Ieee.single.nearest true mag p % 2147483648 = RN mag p := by
 have hr := RN_pos mag p
 unfold RN Ieee.Format.nearest at *
 by_cases h0 : mag = 0
 ·rw [if_pos h0, if_pos h0]; decide
 ·rw [if_neg h0] at hr ⊢
  rw [if_neg h0]
  have hw : ∀ r, Ieee.single.word false r = r := fun r => rfl
  simp only [ir32, hw] at hr ⊢
  rw [word_mod32 (Nat.min_le_right _ _)]
  simp only [cut_full]

theorem sub_small {x y c : Nat} (hx : x ≤ 2130706432) (hy : y ≤ 2130706432) (hc : c ≤ 2130706432) (h1 : V32 x ≤ V32 y + V32 c) (h2 : V32 y ≤ V32 x + V32 c) : (fop .sub .f32 x y) % 2147483648 ≤ c := by
 obtain ⟨m, i, e1, v1⟩ := read_pos hx
 obtain ⟨n, j, e2, v2⟩ := read_pos hy
 have hcc : RN (V32 c) (-149) = c := by rw [RN_V (K := 254) (by unfold bd; omega) (by omega) (by omega), Nat.mod_eq_of_lt (by omega)]
 rw [sub_read e1 e2]
 simp only [Bool.not_false, signed_false, signed_true]
 have hmin : min (-149 + (i : Int)) (-149 + (j : Int)) = -149 + ((min i j : Nat) : Int) := by omega
 have e3 : (-149 + (i : Int) - (-149 + ((min i j : Nat) : Int))).toNat = i - min i j := by omega
 have e4 : (-149 + (j : Int) - (-149 + ((min i j : Nat) : Int))).toNat = j - min i j := by omega
 rw [hmin, e3, e4]
 have sA : V32 x = m * 2 ^ (i - min i j) * 2 ^ min i j := by rw [v1, Nat.mul_assoc, ← Nat.pow_add, show i - min i j + min i j = i by omega]
 have sB : V32 y = n * 2 ^ (j - min i j) * 2 ^ min i j := by rw [v2, Nat.mul_assoc, ← Nat.pow_add, show j - min i j + min i j = j by omega]
 generalize m * 2 ^ (i - min i j) = A at *
 generalize n * 2 ^ (j - min i j) = B at *
 have key : ∀ d : Nat, d * 2 ^ min i j ≤ V32 c → RN d (-149 + ((min i j : Nat) : Int)) ≤ c := fun d hd => by
  have := RN_scale d (min i j) (-149 + ((min i j : Nat) : Int))
  rw [show -149 + ((min i j : Nat) : Int) - ((min i j : Nat) : Int) = -149 by omega] at this
  rw [← this]
  exact Nat.le_trans (RN_mono hd) (Nat.le_of_eq hcc)
 have hd : (((A : Nat) : Int) + -((B : Nat) : Int)).natAbs * 2 ^ min i j ≤ V32 c := by
  by_cases hab : B ≤ A
  ·rw [show (((A : Nat) : Int) + -((B : Nat) : Int)).natAbs = A - B by omega, Nat.sub_mul]; omega
  ·rw [show (((A : Nat) : Int) + -((B : Nat) : Int)).natAbs = B - A by omega, Nat.sub_mul]; omega
 have hk := key _ hd
 generalize (((A : Nat) : Int) + -((B : Nat) : Int)).natAbs = D at *
 rw [canon_bd (nearest_le255 _ _ _) (Nat.le_refl _)]
 cases (if ((A : Nat) : Int) + -((B : Nat) : Int) = 0 then false && true else decide (((A : Nat) : Int) + -((B : Nat) : Int) < 0)) with
 | false =>
  show RN D _ % 2147483648 ≤ c
  have := RN_pos D (-149 + ((min i j : Nat) : Int))
  rw [Nat.mod_eq_of_lt (by omega)]; exact hk
 | true => rw [nearest_neg]; exact hk

theorem small_order {z c : Nat} (hz : z % 2147483648 ≤ c) (hc : c ≤ 2130706432) : fle .f32 z c = true ∧ fge .f32 z (2147483648 + c) = true := by
 have hb : bd z 254 := by unfold bd; omega
 obtain ⟨m, i, e1, v1⟩ := read_V hb (by omega) (by omega)
 obtain ⟨n, j, e2, v2⟩ := read_pos hc
 have hbc : bd (2147483648 + c) 254 := by unfold bd; omega
 obtain ⟨n', j', e3, v3⟩ := read_V hbc (by omega) (by omega)
 have hs : ((2147483648 + c) / 2147483648 % 2 == 1) = true := by
  have : (2147483648 + c) / 2147483648 = 1 := by omega
  rw [this]; rfl
 rw [hs] at e3
 have hV : V32 z ≤ V32 c := by
  have : V32 z = V32 (z % 2147483648) := V_mod (Nat.mod_mod _ _).symm
  rw [this]
  exact V_mono (Nat.mod_lt _ (by omega)) (by omega) hz
 have hVc : V32 (2147483648 + c) = V32 c := V_mod (by omega)
 constructor
 ·rw [fle_num e1 e2]
  refine decide_eq_true ?_
  have h1 := scaled_min (m := m) (n := n) (i := i) (j := j)
  rw [← v1, ← v2] at h1
  have h1 := h1.2 hV
  cases (z / 2147483648 % 2 == 1) with
  | false => rw [signed_false, signed_false]; omega
  | true => rw [signed_true, signed_false]; omega
 ·rw [fge_num e1 e3]
  refine decide_eq_true ?_
  have h1 := scaled_min (m := m) (n := n') (i := i) (j := j')
  rw [← v1, ← v3, hVc] at h1
  have h1 := h1.2 hV
  cases (z / 2147483648 % 2 == 1) with
  | false => rw [signed_false, signed_true]; omega
  | true => rw [signed_true, signed_true]; omega

theorem Vc_eq : V32 981668463 = 8589935 * 2 ^ 116 := by decide

theorem nearOne_of {s : Nat} (hs : s ≤ 2130706432) (h : Near 40 (V32 s) (2 ^ 149)) : nearOne s = true := by
 have h1 := h.le (by omega)
 have h2 := h.symm.le (by omega)
 have e : (2 : Nat) ^ 149 = 8589934592 * 2 ^ 116 := by decide
 have hz := sub_small (x := s) (y := 1065353216) (c := 981668463) hs (by omega) (by omega) (by
  rw [V_one, Vc_eq]
  rw [e] at h1 h2 ⊢
  generalize 2 ^ 116 = P at *
  omega) (by
  rw [V_one, Vc_eq]
  rw [e] at h1 h2 ⊢
  generalize 2 ^ 116 = P at *
  omega)
 have := small_order hz (by omega)
 unfold nearOne
 rw [this.1]
 exact this.2

theorem sumF_near {xs : List Nat} {b : Nat} (hb : 23 ≤ b) (hx : ∀ i, i < xs.length → xs.getD i 0 ≤ 2130706432 ∧ V32 (xs.getD i 0) ≤ 2 ^ b) : ∀ n, n ≤ xs.length → b + n ≤ 274 →
  sumF xs n ≤ 2130706432 ∧ V32 (sumF xs n) ≤ 2 ^ (b + n) ∧ Near n (V32 (sumF xs n)) (sumN (fun i => V32 (xs.getD i 0)) n) ∧ ∀ i, i < n → xs.getD i 0 ≤ sumF xs n
 | 0, _, _ => by
  refine ⟨by unfold sumF; omega, ?_, ?_, fun i hi => absurd hi (Nat.not_lt_zero i)⟩
  ·unfold sumF; rw [V_zero]; exact Nat.zero_le _
  ·unfold sumF sumN; rw [V_zero]; exact Near.refl _ _
 | n + 1, hn, hbn => by
  obtain ⟨h1, h2, h3, h4⟩ := sumF_near hb hx n (by omega) (by omega)
  obtain ⟨x1, x2⟩ := hx n (by omega)
  obtain ⟨q1, q2, q3, q4, q5⟩ := add_rg (b := b + n) h1 x1 (by omega) (by omega) h2 (Nat.le_trans x2 (Nat.pow_le_pow_right (by omega) (by omega)))
  refine ⟨q1, q2, ?_, fun i hi => ?_⟩
  ·have := q3.trans ((h3.add (Near.refl n (V32 (xs.getD n 0)))))
   rw [Nat.add_comm 1 n] at this
   exact this
  ·show xs.getD i 0 ≤ fop .add .f32 (sumF xs n) (xs.getD n 0)
   by_cases e : i = n
   ·subst e; exact q5
   ·exact Nat.le_trans (h4 i (by omega)) q4

theorem ent_lo {A B w r T : Nat} (hA : A = 64 * B) (h0 : 0 < A) (l1 : A ≤ w) (h5 : w * A * 10000 ≤ r * T * 10001) (l5 : T * 10000 ≤ 32 * A * 10001) : B ≤ r := by
 have h6 : A * 10000 * 10000 ≤ r * 32 * 10001 * 10001 := by
  refine Nat.le_of_mul_le_mul_right (c := A) ?_ h0
  calc A * 10000 * 10000 * A = A * A * 10000 * 10000 := by rw [Nat.mul_right_comm (A * 10000) 10000 A, Nat.mul_right_comm A 10000 A]
   _ ≤ w * A * 10000 * 10000 := Nat.mul_le_mul_right _ (Nat.mul_le_mul_right _ (Nat.mul_le_mul_right _ l1))
   _ ≤ r * T * 10001 * 10000 := Nat.mul_le_mul_right _ h5
   _ = r * (T * 10000) * 10001 := by rw [Nat.mul_right_comm (r * T) 10001 10000, Nat.mul_assoc r T 10000]
   _ ≤ r * (32 * A * 10001) * 10001 := Nat.mul_le_mul_right _ (Nat.mul_le_mul_left _ l5)
   _ = r * 32 * 10001 * 10001 * A := by rw [← Nat.mul_assoc, ← Nat.mul_assoc, Nat.mul_right_comm (r * 32) A 10001, Nat.mul_right_comm (r * 32 * 10001) A 10001]
 omega

theorem tot_hi {T S A : Nat} (h1 : T * 10000 ≤ S * 10001) (h2 : S ≤ 4 * (8 * A)) : T * 10000 ≤ 32 * A * 10001 := by
 have h3 : 4 * (8 * A) = 32 * A := by rw [← Nat.mul_assoc]
 rw [h3] at h2
 exact Nat.le_trans h1 (Nat.mul_le_mul_right _ h2)

def Ent (x : Nat) : Prop := Rg 143 149 x

end Go.Proofs


/-
 A model is drawn.
-/
namespace Go.Proofs
open Go.Ide Go.IntWalk

theorem getD_appN {xs ys : List Nat} {i : Nat} : (xs ++ ys).getD i 0 = if i < xs.length then xs.getD i 0 else ys.getD (i - xs.length) 0 := by
 split
 ·rename_i h; rw [List.getD_eq_getElem?_getD, List.getElem?_append_left h, List.getD_eq_getElem?_getD]
 ·rename_i h; rw [List.getD_eq_getElem?_getD, List.getElem?_append_right (by omega), List.getD_eq_getElem?_getD]

theorem sumF_app {xs ys : List Nat} : ∀ n, n ≤ xs.length → sumF (xs ++ ys) n = sumF xs n
 | 0, _ => rfl
 | n + 1, h => by
  show fop .add .f32 (sumF (xs ++ ys) n) ((xs ++ ys).getD n 0) = fop .add .f32 (sumF xs n) (xs.getD n 0)
  rw [sumF_app n (by omega), getD_appN, if_pos (by omega)]

theorem weight {x : Int} (h : 0 ≤ x ∧ x < 5) : Rg 149 152 (fofint .f32 (wadd .i64 (1 : Int) x)) := by
 have hx : wadd .i64 (1 : Int) x = 1 + x := waddI (by omega)
 rw [hx]
 rcases (show x = 0 ∨ x = 1 ∨ x = 2 ∨ x = 3 ∨ x = 4 by omega) with rfl | rfl | rfl | rfl | rfl
 ·rw [show fofint .f32 (1 + 0) = 1065353216 by decide]; exact ⟨by decide, by decide, by decide⟩
 ·rw [show fofint .f32 (1 + 1) = 1073741824 by decide]; exact ⟨by decide, by decide, by decide⟩
 ·rw [show fofint .f32 (1 + 2) = 1077936128 by decide]; exact ⟨by decide, by decide, by decide⟩
 ·rw [show fofint .f32 (1 + 3) = 1082130432 by decide]; exact ⟨by decide, by decide, by decide⟩
 ·rw [show fofint .f32 (1 + 4) = 1084227584 by decide]; exact ⟨by decide, by decide, by decide⟩

structure RowsOK (w i : Nat) (xs : List Nat) : Prop where
 len : xs.length = i * w
 ok : ∀ p, p < i → okRow (rowF xs w p) = true
 ent : ∀ p, p < xs.length → Ent (xs.getD p 0)

theorem RowsOK.snoc {w i : Nat} {xs row : List Nat} (h : RowsOK w i xs) (hr : okRow row = true) (hl : row.length = w) (he : ∀ j, j < w → Ent (row.getD j 0)) : RowsOK w (i + 1) (xs ++ row) := by
 have hlen := h.len
 refine ⟨by rw [List.length_append, hlen, hl, Nat.succ_mul], fun p hp => ?_, fun p hp => ?_⟩
 ·by_cases e : p < i
  ·have hpw : p * w + w ≤ i * w := by rw [← Nat.succ_mul]; exact Nat.mul_le_mul_right _ e
   have : rowF (xs ++ row) w p = rowF xs w p := by
    unfold rowF
    rw [List.drop_append_of_le_length (by omega), List.take_append_of_le_length (by rw [List.length_drop]; omega)]
   rw [this]; exact h.ok p e
  ·have hpi : p = i := by omega
   subst hpi
   have : rowF (xs ++ row) w p = row := by
    unfold rowF
    rw [← hlen, List.drop_left, ← hl, List.take_length]
   rw [this]; exact hr
 ·rw [getD_appN]
  rw [List.length_append] at hp
  split
  ·rename_i h2; exact h.ent p h2
  ·exact he _ (by omega)

structure Drawn (a b : Nat) (fs ss hs : List Nat) : Prop where
 a4 : a ≤ 4
 ok : okModel (a : Int) (b : Int) fs ss hs = true
 m : Model a b fs ss hs
 ef : ∀ i, i < a → Ent (fs.getD i 0)
 es : ∀ i j, i < a → j < a → Ent (ss.getD (i * a + j) 0)
 eh : ∀ i j, i < a → j < b → Ent (hs.getD (i * b + j) 0)

theorem cell_lt {a b i j : Nat} (hi : i < a) (hj : j < b) : i * b + j < a * b := by
 have : i * b + b ≤ a * b := by rw [← Nat.succ_mul]; exact Nat.mul_le_mul_right _ hi
 omega

section
variable {a b : Nat} {fs ss hs : List Nat}

def RowRg (a lo hi : Nat) (row : List Nat) : Prop := ∀ i, i < a → Rg lo hi (row.getD i 0)

theorem sum_rg {f : Nat → Nat} {t : Nat → Nat} {lo hi : Nat} (hb : 23 ≤ hi) (h0 : f 0 = 0) (hs : ∀ p, f (p + 1) = fop .add .f32 (f p) (t p)) : ∀ n, (∀ p, p < n → Rg lo hi (t p)) → hi + n ≤ 274 →
  f n ≤ 2130706432 ∧ V32 (f n) ≤ 2 ^ (hi + n) ∧ Near n (V32 (f n)) (sumN (fun p => V32 (t p)) n) ∧ (1 ≤ n → 2 ^ lo ≤ V32 (f n))
 | 0, _, _ => by
  rw [h0, V_zero]
  exact ⟨by omega, Nat.zero_le _, Near.refl _ _, fun h => absurd h (by omega)⟩
 | n + 1, ht, hn => by
  obtain ⟨h1, h2, h3, h4⟩ := sum_rg hb h0 hs n (fun p hp => ht p (by omega)) (by omega)
  have hx := ht n (by omega)
  obtain ⟨q1, q2, q3, q4, q5⟩ := add_rg (b := hi + n) h1 hx.fin (by omega) (by omega) h2 (Nat.le_trans hx.hi (Nat.pow_le_pow_right (by omega) (by omega)))
  rw [hs]
  refine ⟨q1, q2, ?_, fun _ => ?_⟩
  ·have := q3.trans (h3.add (Near.refl n (V32 (t n))))
   rw [Nat.add_comm 1 n] at this
   exact this
  ·exact Nat.le_trans hx.lo (V_mono (by have := hx.fin; omega) (by omega) q5)

theorem next_rg (d : Drawn a b fs ss hs) {row : List Nat} {c lo hi : Nat} (hc : c < b) (hr : RowRg a lo hi row) (h1 : 39 ≤ lo) (h2 : lo ≤ hi) (h3 : hi ≤ 250) : RowRg a (lo - 12) (hi + 4) (nextF a b ss hs row c) := fun j hj => by
 have a4 := d.a4
 rw [nextF_get hj]
 have ht : ∀ p, p < a → Rg (lo - 12) hi (fop .mul .f32 (fop .mul .f32 (row.getD p 0) (hs.getD (p * b + c) 0)) (ss.getD (p * a + j) 0)) := fun p hp => by
  have m1 := (mul_rg (hr p hp) (d.eh p c hp hc) (by omega) (by omega) (by omega) (by omega)).1
  have m2 := (mul_rg m1 (d.es p j hp hj) (by omega) (by omega) (by omega) (by omega)).1
  exact m2.mono (by omega) (by omega)
 obtain ⟨q1, q2, _, q4⟩ := sum_rg (f := cellF a b ss hs row c j) (by omega) rfl (fun p => rfl) a ht (by omega)
 exact ⟨q1, q4 (by omega), Nat.le_trans q2 (Nat.pow_le_pow_right (by omega) (by omega))⟩

theorem fwd_rg (d : Drawn a b fs ss hs) {w : List Int} (hw : Letters b w) (hl : w.length ≤ 6) : ∀ i, i ≤ w.length → RowRg a (143 - 12 * i) (149 + 4 * i) (rowAt a b fs ss hs w i)
 | 0, _ => fun i hi => d.ef i hi
 | i + 1, hi => by
  obtain ⟨c, hc, hc2⟩ := hw i (by omega)
  have := next_rg d hc2 (fwd_rg d hw hl i (by omega)) (by omega) (by omega) (by omega)
  rw [rowAt, hc, Int.toNat_natCast]
  exact fun j hj => (this j hj).mono (by omega) (by omega)

theorem prev_rg (d : Drawn a b fs ss hs) {row : List Nat} {c lo hi : Nat} (hc : c < b) (hr : RowRg a lo hi row) (h1 : 39 ≤ lo) (h2 : lo ≤ hi) (h3 : hi ≤ 250) :
  RowRg a (lo - 12) (hi + 4) (prevB a b ss hs row c) ∧ ∀ i, i < a → Near (a + 2) (V32 ((prevB a b ss hs row c).getD i 0) * (2 ^ 149 * 2 ^ 149)) (sumN (fun p => V32 (hs.getD (i * b + c) 0) * V32 (ss.getD (i * a + p) 0) * V32 (row.getD p 0)) a) := by
 have a4 := d.a4
 have ht : ∀ i p, i < a → p < a → Rg (lo - 12) hi (fop .mul .f32 (fop .mul .f32 (hs.getD (i * b + c) 0) (ss.getD (i * a + p) 0)) (row.getD p 0)) ∧
   Near 2 (V32 (fop .mul .f32 (fop .mul .f32 (hs.getD (i * b + c) 0) (ss.getD (i * a + p) 0)) (row.getD p 0)) * (2 ^ 149 * 2 ^ 149)) (V32 (hs.getD (i * b + c) 0) * V32 (ss.getD (i * a + p) 0) * V32 (row.getD p 0)) := fun i p hi hp => by
  obtain ⟨m1, n1⟩ := mul_rg (d.eh i c hi hc) (d.es i p hi hp) (by omega) (by omega) (by omega) (by omega)
  obtain ⟨m2, n2⟩ := mul_rg m1 (hr p hp) (by omega) (by omega) (by omega) (by omega)
  refine ⟨m2.mono (by omega) (by omega), ?_⟩
  have n3 := (n2.mulr (2 ^ 149)).trans (by
   have := n1.mulr (V32 (row.getD p 0))
   rwa [Nat.mul_right_comm] at this)
  rwa [Nat.mul_assoc] at n3
 have key := fun i (hia : i < a) => sum_rg (f := cellB a b ss hs row c i) (lo := lo - 12) (hi := hi) (by omega) rfl (fun p => rfl) a (fun p hp => (ht i p hia hp).1) (by omega)
 constructor
 ·intro i hi
  obtain ⟨q1, q2, _, q4⟩ := key i hi
  rw [prevB_get hi]
  exact ⟨q1, q4 (by omega), Nat.le_trans q2 (Nat.pow_le_pow_right (by omega) (by omega))⟩
 ·intro i hi
  obtain ⟨_, _, q3, _⟩ := key i hi
  rw [prevB_get hi]
  refine (q3.mulr _).trans ?_
  rw [sumN_mul]
  exact near_sum _ fun p hp => (ht i p hi hp).2

theorem one_rg : Rg 149 149 1065353216 := ⟨by decide, by rw [V_one]; exact Nat.le_refl _, by rw [V_one]; exact Nat.le_refl _⟩

theorem bwd_rg (d : Drawn a b fs ss hs) {w : List Int} (hw : Letters b w) (hl : w.length ≤ 6) : ∀ k, k ≤ w.length → RowRg a (149 - 12 * k) (149 + 4 * k) (rowE a b ss hs w k)
 | 0, _ => fun i hi => by
  rw [rowE, List.getD_eq_getElem?_getD, List.getElem?_replicate, if_pos hi]
  exact one_rg
 | k + 1, hk => by
  obtain ⟨c, hc, hc2⟩ := hw (w.length - (k + 1)) (by omega)
  have := (prev_rg d hc2 (bwd_rg d hw hl k (by omega)) (by omega) (by omega) (by omega)).1
  rw [rowE, hc, Int.toNat_natCast]
  exact fun j hj => (this j hj).mono (by omega) (by omega)

end
end Go.Proofs


/-
 Hidden states and steps: their chances.
-/
namespace Go.Proofs
open Go.Ide Go.IntWalk

section
variable {a b : Nat} {fs ss hs : List Nat}

end
end Go.Proofs


/-
 Floats of 64 bits that are not below nought. Printed by double.py.
-/
namespace Go.Proofs
open Go.Ide Go.IntWalk

def RND (u : Nat) (p : Int) : Nat := Ieee.double.nearest false u p

theorem RN_zeroD (p : Int) : RND 0 p = 0 := by
 unfold RND Ieee.Format.nearest
 rw [if_pos rfl]
 rfl

theorem RN_scaleD (u s : Nat) (p : Int) : RND (u * 2 ^ s) (p - s) = RND u p := nearest_scale

theorem RN_posD (u : Nat) (p : Int) : RND u p ≤ 9218868437227405312 := by
 obtain ⟨r, hr, e⟩ := nearest_word32D false u p
 unfold RND
 rw [e]
 exact hr

theorem RN_monoD {u v : Nat} {p : Int} (h : u ≤ v) : RND u p ≤ RND v p := by
 by_cases h0 : u = 0
 ·subst h0; rw [RN_zeroD]; exact Nat.zero_le _
 have h1 : v ≠ 0 := by omega
 unfold RND Ieee.Format.nearest
 rw [if_neg h0, if_neg h1]
 have hf : Ieee.double.fractionBits = 52 := rfl
 simp only [lp32D, bi32D, ir32D, hf]
 have hlog : u.log2 ≤ v.log2 := by
  have a := Nat.log2_self_le h0
  exact (Nat.le_log2 h1).2 (by omega)
 have hw : ∀ r, Ieee.double.word false r = r := fun r => rfl
 rw [hw, hw]
 refine Nat.le_min.2 ⟨?_, Nat.min_le_right _ _⟩
 refine Nat.le_trans (Nat.min_le_left _ _) ?_
 by_cases he : max (p + (u.log2 : Int) - ((52 : Nat) : Int)) (-1074) = max (p + (v.log2 : Int) - ((52 : Nat) : Int)) (-1074)
 ·rw [he]
  refine Nat.add_le_add_left (cut_mono ?_) _
  rw [Nat.shiftLeft_eq, Nat.shiftLeft_eq]
  exact Nat.mul_le_mul_right _ h
 ·have hk := kept_le (neg := false) (mag := u) (f := 52) (p := p) (last := max (p + (u.log2 : Int) - ((52 : Nat) : Int)) (-1074)) (by omega)
  have hk2 := kept_ge (neg := false) (mag := v) (f := 52) (p := p) (last := max (p + (v.log2 : Int) - ((52 : Nat) : Int)) (-1074)) h1 (by omega)
  have e24 : (2 : Nat) ^ (52 + 1) = 9007199254740992 := by decide
  have e23 : (2 : Nat) ^ 52 = 4503599627370496 := by decide
  rw [e24] at hk
  rw [e23] at hk2
  have hl : (max (p + (u.log2 : Int) - ((52 : Nat) : Int)) (-1074) - -1074).toNat + 1 ≤ (max (p + (v.log2 : Int) - ((52 : Nat) : Int)) (-1074) - -1074).toNat := by omega
  have := Nat.mul_le_mul_right 4503599627370496 hl
  omega

def V32D (x : Nat) : Nat := if x % 9223372036854775808 < 4503599627370496 then x % 9223372036854775808 else (4503599627370496 + x % 9223372036854775808 % 4503599627370496) * 2 ^ (x % 9223372036854775808 / 4503599627370496 - 1)

theorem read_VD {x K : Nat} (h : bdD x K) (h2 : 2 ≤ K) (h3 : K ≤ 2046) : ∃ m i, Ieee.double.read x = .number (x / 9223372036854775808 % 2 == 1) m (-1074 + ((i : Nat) : Int)) ∧ V32D x = m * 2 ^ i := by
 unfold bdD at h
 unfold V32D
 by_cases hlo : x % 9223372036854775808 < 4503599627370496
 ·exact ⟨_, 0, read_loD hlo, by rw [if_pos hlo, Nat.pow_zero, Nat.mul_one]⟩
 ·exact ⟨_, _, read_hiD (by omega) (by omega), by rw [if_neg hlo]⟩

theorem V_monoD {x y : Nat} (hx : x < 9223372036854775808) (hy : y < 9223372036854775808) (h : x ≤ y) : V32D x ≤ V32D y := by
 unfold V32D
 rw [Nat.mod_eq_of_lt hx, Nat.mod_eq_of_lt hy]
 by_cases h1 : x < 4503599627370496
 ·rw [if_pos h1]
  by_cases h2 : y < 4503599627370496
  ·rw [if_pos h2]; exact h
  ·rw [if_neg h2]
   have := Nat.mul_le_mul (show 4503599627370496 ≤ 4503599627370496 + y % 4503599627370496 by omega) (show 1 ≤ 2 ^ (y / 4503599627370496 - 1) from pow_pos2 _)
   omega
 ·rw [if_neg h1, if_neg (by omega)]
  by_cases hq : x / 4503599627370496 = y / 4503599627370496
  ·rw [hq]
   exact Nat.mul_le_mul_right _ (by omega)
  ·have hlt : x / 4503599627370496 < y / 4503599627370496 := by omega
   have e1 : (4503599627370496 + x % 4503599627370496) * 2 ^ (x / 4503599627370496 - 1) ≤ 9007199254740992 * 2 ^ (x / 4503599627370496 - 1) := Nat.mul_le_mul_right _ (by omega)
   have e2 : 9007199254740992 * 2 ^ (x / 4503599627370496 - 1) = 4503599627370496 * 2 ^ (x / 4503599627370496) := by
    obtain ⟨q, hq'⟩ : ∃ q, x / 4503599627370496 = q + 1 := ⟨x / 4503599627370496 - 1, by omega⟩
    rw [hq', Nat.add_sub_cancel, Nat.pow_succ]; omega
   have e3 : 4503599627370496 * 2 ^ (x / 4503599627370496) ≤ 4503599627370496 * 2 ^ (y / 4503599627370496 - 1) := Nat.mul_le_mul_left _ (Nat.pow_le_pow_right (by omega) (by omega))
   have e4 : 4503599627370496 * 2 ^ (y / 4503599627370496 - 1) ≤ (4503599627370496 + y % 4503599627370496) * 2 ^ (y / 4503599627370496 - 1) := Nat.mul_le_mul_right _ (by omega)
   omega

theorem RN_VD {x K : Nat} (h : bdD x K) (h2 : 2 ≤ K) (h3 : K ≤ 2046) : RND (V32D x) (-1074) = x % 9223372036854775808 := by
 have hb : bdD (x % 9223372036854775808) K := by unfold bdD at *; rwa [Nat.mod_mod]
 obtain ⟨m, i, e, hv⟩ := read_VD hb h2 h3
 have hlt : x % 9223372036854775808 < 9223372036854775808 := Nat.mod_lt _ (by omega)
 rw [Nat.div_eq_of_lt hlt] at e
 have hn := nearest_readD (x := x % 9223372036854775808) (by omega) e
 have hV : V32D (x % 9223372036854775808) = V32D x := by unfold V32D; rw [Nat.mod_mod]
 rw [← hV, hv]
 have := RN_scaleD m i (-1074 + (i : Int))
 rw [show -1074 + (i : Int) - (i : Int) = -1074 by omega] at this
 rw [this]
 exact hn

theorem canon_RND (u : Nat) (p : Int) : fcanon .f64 (RND u p) = RND u p := canon_bdD (nearest_le255D _ _ _) (Nat.le_refl _)

theorem V_modD {x y : Nat} (h : x % 9223372036854775808 = y % 9223372036854775808) : V32D x = V32D y := by unfold V32D; rw [h]

theorem V_codeD {t k : Nat} (h1 : 4503599627370496 ≤ k) (h2 : k ≤ 9007199254740992) (h3 : t * 4503599627370496 + k < 9223372036854775808) : V32D (t * 4503599627370496 + k) = k * 2 ^ t := by
 unfold V32D
 rw [Nat.mod_eq_of_lt h3, if_neg (by omega)]
 by_cases e : k = 9007199254740992
 ·subst e
  rw [show (t * 4503599627370496 + 9007199254740992) % 4503599627370496 = 0 by omega, show (t * 4503599627370496 + 9007199254740992) / 4503599627370496 - 1 = t + 1 by omega, Nat.pow_succ]
  omega
 ·rw [show (t * 4503599627370496 + k) % 4503599627370496 = k - 4503599627370496 by omega, show (t * 4503599627370496 + k) / 4503599627370496 - 1 = t by omega, show 4503599627370496 + (k - 4503599627370496) = k by omega]

theorem near_coreD {k d t s u : Nat} (h1 : 4503599627370496 ≤ k) (h2 : k ≤ 9007199254740992) (hc : 2 * (k * 2 ^ d) ≤ 2 * u + 2 ^ d ∧ 2 * u ≤ 2 * (k * 2 ^ d) + 2 ^ d) (hf : min (t * 4503599627370496 + k) 9218868437227405312 < 9218868437227405312) (hd : t + s = d) : Near 1 (V32D (min (t * 4503599627370496 + k) 9218868437227405312) * 2 ^ s) u := by
 obtain ⟨hm, hlt⟩ := min_less hf
 rw [hm, V_codeD h1 h2 (Nat.lt_trans hlt (by decide)), Nat.mul_assoc, ← Nat.pow_add, hd]
 exact near_half (Nat.le_trans (by decide) h1) hc

theorem RN_nearD {u s : Nat} (h : 2 ^ (52 + s) ≤ u) (hf : RND u (-1074 - (s : Int)) < 9218868437227405312) : Near 1 (V32D (RND u (-1074 - (s : Int))) * 2 ^ s) u := by
 have h0 : u ≠ 0 := by have := pow_pos2 (52 + s); omega
 have hl : 52 + s ≤ u.log2 := (Nat.le_log2 h0).2 h
 have hk := kept_ge (neg := false) (mag := u) (f := 52) (p := -1074 - (s : Int)) (last := -1074 - (s : Int) + (u.log2 : Int) - ((52 : Nat) : Int)) h0 rfl
 have hk2 := kept_le (neg := false) (mag := u) (f := 52) (p := -1074 - (s : Int)) (last := -1074 - (s : Int) + (u.log2 : Int) - ((52 : Nat) : Int)) (by omega)
 have e24 : (2 : Nat) ^ (52 + 1) = 9007199254740992 := by decide
 have e23 : (2 : Nat) ^ 52 = 4503599627370496 := by decide
 rw [e23] at hk
 rw [e24] at hk2
 have hfr : Ieee.double.fractionBits = 52 := rfl
 have hlast : max (-1074 - (s : Int) + (u.log2 : Int) - ((52 : Nat) : Int)) (-1074) = -1074 - (s : Int) + (u.log2 : Int) - ((52 : Nat) : Int) := by omega
 have e1 : (-1074 - (s : Int) - (-1074 - (s : Int) + (u.log2 : Int) - ((52 : Nat) : Int))).toNat = 0 := by omega
 have e2 : (-1074 - (s : Int) + (u.log2 : Int) - ((52 : Nat) : Int) - (-1074 - (s : Int))).toNat = u.log2 - 52 := by omega
 have e3 : (-1074 - (s : Int) + (u.log2 : Int) - ((52 : Nat) : Int) - -1074).toNat = u.log2 - 52 - s := by omega
 rw [e1, e2, Nat.shiftLeft_zero] at hk hk2
 have hR : RND u (-1074 - (s : Int)) = min ((u.log2 - 52 - s) * 4503599627370496 + Ieee.Toward.cut .even false u (u.log2 - 52)) 9218868437227405312 := by
  unfold RND Ieee.Format.nearest
  rw [if_neg h0]
  have hw : ∀ r, Ieee.double.word false r = r := fun r => rfl
  simp only [lp32D, bi32D, ir32D, hfr]
  rw [hw, hlast, e1, e2, e3, Nat.shiftLeft_zero]
 rw [hR] at hf ⊢
 exact near_coreD hk hk2 (cut_near u (u.log2 - 52)) hf (by omega)

def pwD (m : Nat) : Nat := (m - 51) * 4503599627370496

theorem V_pwD {m : Nat} (h1 : 52 ≤ m) (h2 : m ≤ 2097) : V32D (pwD m) = 2 ^ m := by
 unfold V32D pwD
 rw [Nat.mod_eq_of_lt (by omega), if_neg (by omega), show (m - 51) * 4503599627370496 % 4503599627370496 = 0 by omega, show (m - 51) * 4503599627370496 / 4503599627370496 - 1 = m - 52 by omega, Nat.add_zero, show (4503599627370496 : Nat) = 2 ^ 52 from rfl, ← Nat.pow_add, show 52 + (m - 52) = m by omega]

theorem RN_pwD {m s : Nat} (h1 : 52 ≤ m) (h2 : m ≤ 2097) : RND (2 ^ (m + s)) (-1074 - (s : Int)) = pwD m := by
 rw [Nat.pow_add, RN_scaleD, ← V_pwD h1 h2]
 have hb : bdD (pwD m) (m - 51) := by unfold bdD pwD; omega
 by_cases e : m = 52
 ·subst e; decide
 ·rw [RN_VD hb (by omega) (by omega)]
  exact Nat.mod_eq_of_lt (by unfold pwD; omega)

theorem RN_leD {u m s : Nat} (h1 : 52 ≤ m) (h2 : m ≤ 2097) (h : u ≤ 2 ^ (m + s)) : RND u (-1074 - (s : Int)) ≤ pwD m := by
 rw [← RN_pwD (s := s) h1 h2]; exact RN_monoD h

theorem read_posD {x : Nat} (h : x ≤ 9214364837600034816) : ∃ m i, Ieee.double.read x = .number false m (-1074 + ((i : Nat) : Int)) ∧ V32D x = m * 2 ^ i := by
 have hb : bdD x 2046 := by unfold bdD; omega
 obtain ⟨m, i, e, v⟩ := read_VD hb (by omega) (by omega)
 have : (x / 9223372036854775808 % 2 == 1) = false := by rw [Nat.div_eq_of_lt (by omega)]; rfl
 rw [this] at e
 exact ⟨m, i, e, v⟩

theorem mul_valD {x y : Nat} (hx : x ≤ 9214364837600034816) (hy : y ≤ 9214364837600034816) : fop .mul .f64 x y = RND (V32D x * V32D y) (-1074 - ((1074 : Nat) : Int)) := by
 obtain ⟨m, i, e1, v1⟩ := read_posD hx
 obtain ⟨n, j, e2, v2⟩ := read_posD hy
 have e3 : floatBits .mul .f64 x y = some (RND (m * n) (-2148 + ((i + j : Nat) : Int))) := by
  show Ieee.double.mul x y = _
  unfold Ieee.Format.mul
  rw [e1, e2]
  show some (Ieee.double.nearest _ (m * n) (-1074 + (i : Int) + (-1074 + (j : Int)))) = _
  rw [show -1074 + (i : Int) + (-1074 + (j : Int)) = -2148 + ((i + j : Nat) : Int) by omega]
  rfl
 unfold fop
 rw [e3]
 simp only
 rw [canon_RND, v1, v2]
 have := RN_scaleD (m * n) (i + j) (-2148 + ((i + j : Nat) : Int))
 rw [show -2148 + ((i + j : Nat) : Int) - ((i + j : Nat) : Int) = -1074 - ((1074 : Nat) : Int) by omega] at this
 rw [← this]
 congr 1
 rw [Nat.pow_add]; ac_rfl

theorem nearest_negD (mag : Nat) (p : Int) : Ieee.double.nearest true mag p % 9223372036854775808 = RND mag p := by
 have hr := RN_posD mag p
 unfold RND Ieee.Format.nearest at *
 by_cases h0 : mag = 0
 ·rw [if_pos h0, if_pos h0]; decide
 ·rw [if_neg h0] at hr ⊢
  rw [if_neg h0]
  have hw : ∀ r, Ieee.double.word false r = r := fun r => rfl
  simp only [ir32D, hw] at hr ⊢
  rw [word_mod32D (Nat.min_le_right _ _)]
  simp only [cut_full]

end Go.Proofs


/-
 Floats of 32 bits as floats of 64; gaps.
-/
namespace Go.Proofs
open Go.Ide Go.IntWalk

theorem conv_val {x k : Nat} (hk : k = 925) (hx : x ≤ 2130706432) : fconv .f32 .f64 x = RND (V32 x * 2 ^ k) (-1074) := by
 obtain ⟨m, i, e, v⟩ := read_pos hx
 have h1 : fconv .f32 .f64 x = RND m (-149 + (i : Int)) := by
  unfold fconv
  rw [if_neg (by decide)]
  have e' : FloatKind.decode .f32 x = .number false m (-149 + (i : Int)) := e
  rw [e']
  show fcanon .f64 (Ieee.double.nearest false m (-149 + (i : Int))) = _
  exact canon_bdD (nearest_le255D _ _ _) (Nat.le_refl _)
 rw [h1, v]
 have := RN_scaleD m (i + k) (-149 + (i : Int))
 rw [show -149 + (i : Int) - ((i + k : Nat) : Int) = -1074 by omega, Nat.pow_add, ← Nat.mul_assoc] at this
 exact this.symm

theorem RND_zero (u : Nat) : RND u (-1074) = RND u (-1074 - ((0 : Nat) : Int)) := by rw [show (-1074 : Int) - ((0 : Nat) : Int) = -1074 by omega]

theorem conv_ok {x k b : Nat} (hk : k = 925) (hx : x ≤ 2130706432) (hb : V32 x ≤ 2 ^ b) (hb2 : b ≤ 276) : fconv .f32 .f64 x ≤ 9214364837600034816 ∧ V32D (fconv .f32 .f64 x) ≤ 2 ^ (b + k) ∧ Near 1 (V32D (fconv .f32 .f64 x)) (V32 x * 2 ^ k) := by
 rw [conv_val hk hx]
 have hle : RND (V32 x * 2 ^ k) (-1074) ≤ pwD (b + k) := by
  rw [RND_zero]
  refine RN_leD (by omega) (by omega) ?_
  rw [Nat.add_zero, Nat.pow_add]
  exact Nat.mul_le_mul_right _ hb
 have hpw : pwD (b + k) ≤ 9214364837600034816 := by unfold pwD; omega
 refine ⟨by omega, ?_, ?_⟩
 ·rw [← V_pwD (m := b + k) (by omega) (by omega)]
  exact V_monoD (by omega) (by omega) hle
 ·by_cases h0 : V32 x = 0
  ·rw [h0, Nat.zero_mul, RN_zeroD]
   exact Near.of_eq (by unfold V32D; decide)
  ·have h1 : 2 ^ (52 + 0) ≤ V32 x * 2 ^ k := by
    have : 2 ^ 52 ≤ 2 ^ k := Nat.pow_le_pow_right (by omega) (by omega)
    have h2 : 1 * 2 ^ k ≤ V32 x * 2 ^ k := Nat.mul_le_mul_right _ (by omega)
    rw [Nat.one_mul] at h2
    exact Nat.le_trans this h2
   have := RN_nearD (s := 0) h1 (by rw [← RND_zero]; omega)
   rw [← RND_zero, Nat.pow_zero, Nat.mul_one] at this
   exact this

theorem V_zeroD : V32D 0 = 0 := by unfold V32D; decide

end Go.Proofs


/-
 Floats of 64 and of 32 bits, of either sign: how far what is computed is from what it stands for.
-/
namespace Go.Proofs
open Go.Ide Go.IntWalk

theorem abs_core {M k d s u : Nat} (hp : 0 < 2 ^ d) (hc : 2 * (k * 2 ^ d) ≤ 2 * u + 2 ^ d ∧ 2 * u ≤ 2 * (k * 2 ^ d) + 2 ^ d) (hu : 2 ^ d * M ≤ u + 2 ^ s * M) :
  k * 2 ^ d * (2 * M) ≤ u * (2 * M) + u + 2 ^ s * M ∧ u * (2 * M) ≤ k * 2 ^ d * (2 * M) + u + 2 ^ s * M := by
 generalize 2 ^ d = g at *
 generalize k * g = K at *
 generalize 2 ^ s = t at *
 have a := Nat.mul_le_mul_right M hc.1
 have b := Nat.mul_le_mul_right M hc.2
 rw [Nat.add_mul, Nat.mul_assoc, Nat.mul_assoc] at a b
 have e1 : K * (2 * M) = 2 * (K * M) := by rw [Nat.mul_left_comm]
 have e2 : u * (2 * M) = 2 * (u * M) := by rw [Nat.mul_left_comm]
 rw [e1, e2]
 omega

theorem RND_abs {u s : Nat} (hf : RND u (-1074 - (s : Int)) < 9218868437227405312) :
  V32D (RND u (-1074 - (s : Int))) * 2 ^ s * 9007199254740992 ≤ u * 9007199254740992 + u + 2 ^ s * 4503599627370496 ∧ u * 9007199254740992 ≤ V32D (RND u (-1074 - (s : Int))) * 2 ^ s * 9007199254740992 + u + 2 ^ s * 4503599627370496 := by
 by_cases h0 : u = 0
 ·subst h0
  rw [RN_zeroD, V_zeroD]
  omega
 have hk2 := kept_le (neg := false) (mag := u) (f := 52) (p := -1074 - (s : Int)) (last := max (-1074 - (s : Int) + (u.log2 : Int) - ((52 : Nat) : Int)) (-1074)) (by omega)
 have e24 : (2 : Nat) ^ (52 + 1) = 9007199254740992 := by decide
 have e23 : (2 : Nat) ^ 52 = 4503599627370496 := by decide
 rw [e24] at hk2
 have hfr : Ieee.double.fractionBits = 52 := rfl
 by_cases hl : 52 + s ≤ u.log2
 ·have hk := kept_ge (neg := false) (mag := u) (f := 52) (p := -1074 - (s : Int)) (last := -1074 - (s : Int) + (u.log2 : Int) - ((52 : Nat) : Int)) h0 rfl
  have hlast : max (-1074 - (s : Int) + (u.log2 : Int) - ((52 : Nat) : Int)) (-1074) = -1074 - (s : Int) + (u.log2 : Int) - ((52 : Nat) : Int) := by omega
  rw [hlast] at hk2
  rw [e23] at hk
  have e1 : (-1074 - (s : Int) - (-1074 - (s : Int) + (u.log2 : Int) - ((52 : Nat) : Int))).toNat = 0 := by omega
  have e2 : (-1074 - (s : Int) + (u.log2 : Int) - ((52 : Nat) : Int) - (-1074 - (s : Int))).toNat = u.log2 - 52 := by omega
  have e3 : (-1074 - (s : Int) + (u.log2 : Int) - ((52 : Nat) : Int) - -1074).toNat = u.log2 - 52 - s := by omega
  rw [e1, e2, Nat.shiftLeft_zero] at hk hk2
  have hR : RND u (-1074 - (s : Int)) = min ((u.log2 - 52 - s) * 4503599627370496 + Ieee.Toward.cut .even false u (u.log2 - 52)) 9218868437227405312 := by
   unfold RND Ieee.Format.nearest
   rw [if_neg h0]
   have hw : ∀ r, Ieee.double.word false r = r := fun r => rfl
   simp only [lp32D, bi32D, ir32D, hfr]
   rw [hw, hlast, e1, e2, e3, Nat.shiftLeft_zero]
  rw [hR] at hf ⊢
  obtain ⟨hm, hlt⟩ := min_less hf
  rw [hm, V_codeD hk hk2 (Nat.lt_trans hlt (by decide)), Nat.mul_assoc (Ieee.Toward.cut _ _ _ _), ← Nat.pow_add, show u.log2 - 52 - s + s = u.log2 - 52 by omega]
  have hself := Nat.log2_self_le h0
  have := abs_core (M := 4503599627370496) (s := s) (pow_pos2 (u.log2 - 52)) (cut_near u (u.log2 - 52)) (by
   have e : 2 ^ (u.log2 - 52) * 4503599627370496 = 2 ^ u.log2 := by rw [← e23, ← Nat.pow_add]; congr 1; omega
   rw [e]; omega)
  exact this
 ·have hlast : max (-1074 - (s : Int) + (u.log2 : Int) - ((52 : Nat) : Int)) (-1074) = -1074 := by omega
  rw [hlast] at hk2
  have e1 : (-1074 - (s : Int) - -1074).toNat = 0 := by omega
  have e2 : ((-1074 : Int) - (-1074 - (s : Int))).toNat = s := by omega
  have e3 : ((-1074 : Int) - -1074).toNat = 0 := by omega
  rw [e1, e2, Nat.shiftLeft_zero] at hk2
  have hR : RND u (-1074 - (s : Int)) = min (Ieee.Toward.cut .even false u s) 9218868437227405312 := by
   unfold RND Ieee.Format.nearest
   rw [if_neg h0]
   have hw : ∀ r, Ieee.double.word false r = r := fun r => rfl
   simp only [lp32D, bi32D, ir32D, hfr]
   rw [hw, hlast, e1, e2, e3, Nat.shiftLeft_zero, Nat.zero_mul, Nat.zero_add]
  have hlt2 : Ieee.Toward.cut .even false u s ≤ 4503599627370496 := by
   have h1 : u < 2 ^ (52 + s) := (Nat.log2_lt h0).1 (by omega)
   have h2 := (cut_near u s).1
   rw [Nat.pow_add, e23] at h1
   have hp := pow_pos2 s
   generalize 2 ^ s = g at *
   apply Nat.le_of_lt_succ
   apply Nat.lt_of_mul_lt_mul_right (a := g)
   rw [Nat.succ_mul]
   omega
  rw [hR, Nat.min_eq_left (by omega)]
  have hV : V32D (Ieee.Toward.cut .even false u s) = Ieee.Toward.cut .even false u s := by
   have := V_codeD (t := 0) (k := 4503599627370496) (by omega) (by omega) (by omega)
   by_cases e : Ieee.Toward.cut .even false u s = 4503599627370496
   ·rw [e]; rw [Nat.zero_mul, Nat.zero_add, Nat.pow_zero, Nat.mul_one] at this; exact this
   ·unfold V32D
    rw [Nat.mod_eq_of_lt (by omega), if_pos (by omega)]
  rw [hV]
  exact abs_core (M := 4503599627370496) (s := s) (pow_pos2 s) (cut_near u s) (by omega)

end Go.Proofs


/-
 Floats of 64 bits as rational numbers: sums, products, quotients.
-/
namespace Go.Proofs
open Go.Ide Go.IntWalk

def kD : Nat := 1074
theorem kD_lo : 1000 ≤ kD := by decide
theorem kD_hi : kD ≤ 1074 := by decide
theorem kD_int : ((kD : Nat) : Int) = 1074 := rfl
attribute [irreducible] kD
theorem pw_big : pwD (26 + kD) ≤ 9214364837600034816 := Nat.le_trans (Nat.mul_le_mul_right _ (show 26 + kD - 51 ≤ 2000 by have := kD_hi; omega)) (by decide)

def UD : Rat := ((2 ^ kD : Nat) : Rat)
theorem natPos {n : Nat} (h : 0 < n) : (0 : Rat) < (n : Rat) := by
 have := (Rat.natCast_lt_natCast (a := 0) (b := n)).2 h
 simpa using this
theorem powPos (k : Nat) : (0 : Rat) < ((2 ^ k : Nat) : Rat) := natPos (pow_pos2 k)
theorem UD_pos : 0 < UD := powPos kD

def sg (b : Bool) (r : Rat) : Rat := if b then -r else r

def wD (x : Nat) : Rat := sg (x / 9223372036854775808 % 2 == 1) ((V32D x : Nat) : Rat) / UD

def Apx (e a b : Rat) : Prop := a ≤ b + e ∧ b ≤ a + e

theorem natLe {a b : Nat} (h : a ≤ b) : (a : Rat) ≤ (b : Rat) := Rat.natCast_le_natCast.2 h

theorem near_signD (neg : Bool) (u : Nat) (p : Int) : Ieee.double.nearest neg u p = (if neg then 9223372036854775808 else 0) + RND u p := by
 cases neg with
 | false => simp only [Bool.false_eq_true, if_false, Nat.zero_add]; rfl
 | true =>
  have h := nearest_negD u p
  obtain ⟨r, hr, e⟩ := nearest_word32D true u p
  have e2 : Ieee.double.word true r = 9223372036854775808 + r := by unfold Ieee.Format.word; rw [if_pos rfl, sw32D]
  rw [e, e2] at h ⊢
  rw [if_pos rfl, ← h]
  omega

theorem sgn_of {neg : Bool} {r : Nat} (h : r < 9223372036854775808) : (((if neg then 9223372036854775808 else 0) + r) / 9223372036854775808 % 2 == 1) = neg := by
 cases neg with
 | false => simp only [Bool.false_eq_true, if_false, Nat.zero_add]; rw [Nat.div_eq_of_lt h]; rfl
 | true =>
  rw [if_pos rfl, show (9223372036854775808 + r) / 9223372036854775808 = 1 by omega]
  rfl

theorem V_offD {neg : Bool} {r : Nat} : V32D ((if neg then 9223372036854775808 else 0) + r) = V32D r := by
 apply V_modD
 cases neg <;> simp

def FD (x : Nat) : Prop := bdD x 2046 ∧ V32D x ≤ 2 ^ (26 + kD)

theorem UD_big : (1393796574908163946345982392040522594123776 : Rat) ≤ UD := by
 have h : 2 ^ 140 ≤ 2 ^ kD := Nat.pow_le_pow_right (by omega) (Nat.le_trans (by omega) kD_lo)
 have := natLe h
 unfold UD
 exact this

theorem nearD {neg : Bool} {u s : Nat} {v e : Rat} (hv : sg neg ((u : Rat) / (UD * ((2 ^ s : Nat) : Rat))) = v) (he1 : 1 / 1152921504606846976 ≤ e) (he2 : e ≤ 67108864) (v1 : -e ≤ v) (v2 : v ≤ e) :
  FD (Ieee.double.nearest neg u (-1074 - (s : Int))) ∧ Apx (e / 4503599627370496) (wD (Ieee.double.nearest neg u (-1074 - (s : Int)))) v := by
 have hp := powPos s
 have hU := UD_pos
 have hUb := UD_big
 have hk1 := kD_lo
 have hk2 := kD_hi
 have hUP : 0 < UD * ((2 ^ s : Nat) : Rat) := Rat.mul_pos hU hp
 have hb : (u : Rat) / (UD * ((2 ^ s : Nat) : Rat)) ≤ e := by
  unfold sg at hv
  cases neg
  ·simp only [Bool.false_eq_true, if_false] at hv; grind
  ·simp only [if_true] at hv; grind
 have hu : u ≤ 2 ^ ((26 + kD) + s) := by
  have h1 : (u : Rat) ≤ 67108864 * (UD * ((2 ^ s : Nat) : Rat)) := by
   have e2 : (u : Rat) / (UD * ((2 ^ s : Nat) : Rat)) * (UD * ((2 ^ s : Nat) : Rat)) = (u : Rat) := by
    generalize UD * ((2 ^ s : Nat) : Rat) = z at *
    grind
   rw [← e2]
   exact Rat.mul_le_mul_of_nonneg_right (Rat.le_trans hb he2) (Rat.le_of_lt hUP)
  have h2 : (67108864 : Rat) * (UD * ((2 ^ s : Nat) : Rat)) = ((2 ^ ((26 + kD) + s) : Nat) : Rat) := by
   rw [Nat.pow_add, Nat.pow_add, Rat.natCast_mul, Rat.natCast_mul, Rat.mul_assoc]
   rfl
  rw [h2] at h1
  exact Rat.natCast_le_natCast.1 h1
 have hle : RND u (-1074 - (s : Int)) ≤ pwD (26 + kD) := RN_leD (by omega) (by omega) hu
 have hpw := pw_big
 obtain ⟨h1, h2⟩ := RND_abs (u := u) (s := s) (by omega)
 rw [near_signD]
 have hV : V32D (RND u (-1074 - (s : Int))) ≤ 2 ^ (26 + kD) := by
  rw [← V_pwD (m := 26 + kD) (by omega) (by omega)]
  exact V_monoD (by omega) (by omega) hle
 have hr : RND u (-1074 - (s : Int)) ≤ 9214364837600034816 := by omega
 clear hu hle hpw
 refine ⟨⟨?_, ?_⟩, ?_⟩
 ·unfold bdD
  cases neg
  ·simp only [Bool.false_eq_true, if_false]; omega
  ·simp only [if_true]; omega
 ·rw [V_offD]; exact hV
 ·clear hV
  unfold wD
  rw [sgn_of (by omega), V_offD]
  generalize V32D (RND u (-1074 - (s : Int))) = V at *
  have n1 := natLe h1
  have n2 := natLe h2
  simp only [Rat.natCast_mul, Rat.natCast_add] at n1 n2
  clear h1 h2 hr
  unfold Apx
  generalize ((2 ^ s : Nat) : Rat) = P at *
  generalize UD = U at *
  generalize (u : Rat) = x at *
  generalize (V : Rat) = y at *
  have c1 : (((9007199254740992 : Nat) : Rat)) = 9007199254740992 := rfl
  have c2 : (((4503599627370496 : Nat) : Rat)) = 4503599627370496 := rfl
  rw [c1, c2] at n1 n2
  have e1 : y / U * (U * P) = y * P := by grind
  have e2 : x / (U * P) * (U * P) = x := by grind
  have e3 : 1 / (2 * U) * (U * P) = P / 2 := by grind
  have main : y / U ≤ x / (U * P) + (x / (U * P) / 9007199254740992 + 1 / (2 * U)) ∧ x / (U * P) ≤ y / U + (x / (U * P) / 9007199254740992 + 1 / (2 * U)) := by
   constructor
   ·refine Rat.le_of_mul_le_mul_right ?_ hUP
    have : (x / (U * P) + (x / (U * P) / 9007199254740992 + 1 / (2 * U))) * (U * P) = x + x / 9007199254740992 + P / 2 := by grind
    rw [this, e1]
    grind
   ·refine Rat.le_of_mul_le_mul_right ?_ hUP
    have : (y / U + (x / (U * P) / 9007199254740992 + 1 / (2 * U))) * (U * P) = y * P + x / 9007199254740992 + P / 2 := by grind
    rw [this, e2]
    grind
  have hd : 1 / (2 * U) ≤ 1 / 1393796574908163946345982392040522594123776 := by
   refine Rat.le_of_mul_le_mul_right ?_ (c := 2 * U) (by grind)
   have : 1 / (2 * U) * (2 * U) = 1 := by grind
   rw [this]
   grind
  have eng : sg neg y / U = sg neg (y / U) := by
   unfold sg
   cases neg
   ·simp
   ·simp only [if_true]; grind
  rw [eng]
  obtain ⟨m1, m2⟩ := main
  generalize y / U = a at *
  generalize x / (U * P) = b at *
  generalize 1 / (2 * U) = d at *
  unfold sg at hv ⊢
  cases neg
  ·simp only [Bool.false_eq_true, if_false] at hv ⊢; constructor <;> grind
  ·simp only [if_true] at hv ⊢; constructor <;> grind

theorem sgC {b : Bool} {r c : Rat} : sg b r / c = sg b (r / c) := by
 unfold sg
 cases b
 ·simp
 ·simp only [if_true]; grind

theorem readFD {x : Nat} (h : FD x) : ∃ sn m i, Ieee.double.read x = .number sn m (-1074 + ((i : Nat) : Int)) ∧ wD x = sg sn (((m * 2 ^ i : Nat) : Rat) / UD) ∧ V32D x = m * 2 ^ i := by
 obtain ⟨m, i, e, v⟩ := read_VD h.1 (by omega) (by omega)
 refine ⟨_, m, i, e, ?_, v⟩
 unfold wD
 rw [sgC, v]

theorem sgInt {b : Bool} {m : Nat} : sg b (m : Rat) = (((if b then -(m : Int) else (m : Int)) : Int) : Rat) := by
 unfold sg
 cases b
 ·simp only [Bool.false_eq_true, if_false]; rfl
 ·simp only [if_true]; rw [Rat.intCast_neg]; rfl

theorem signedInt (b : Bool) (m u : Nat) : Ieee.signed b m u = if b then -((m * 2 ^ u : Nat) : Int) else ((m * 2 ^ u : Nat) : Int) := by
 cases b
 ·rw [signed_false]; rfl
 ·rw [signed_true]; rfl

theorem sumD {s t : Bool} {m n i j : Nat} {neg : Bool} {z : Int} {e v : Rat} (hz : z = Ieee.signed s m ((-1074 + (i : Int)) - min (-1074 + (i : Int)) (-1074 + (j : Int))).toNat + Ieee.signed t n ((-1074 + (j : Int)) - min (-1074 + (i : Int)) (-1074 + (j : Int))).toNat)
  (hneg : z ≠ 0 → neg = decide (z < 0)) (hv : v = sg s (((m * 2 ^ i : Nat) : Rat) / UD) + sg t (((n * 2 ^ j : Nat) : Rat) / UD)) (he1 : 1 / 1152921504606846976 ≤ e) (he2 : e ≤ 67108864) (v1 : -e ≤ v) (v2 : v ≤ e) :
  FD (Ieee.double.nearest neg z.natAbs (min (-1074 + (i : Int)) (-1074 + (j : Int)))) ∧ Apx (e / 4503599627370496) (wD (Ieee.double.nearest neg z.natAbs (min (-1074 + (i : Int)) (-1074 + (j : Int))))) v := by
 have hmin : min (-1074 + (i : Int)) (-1074 + (j : Int)) = -1074 + ((min i j : Nat) : Int) := by omega
 have e3 : (-1074 + (i : Int) - (-1074 + ((min i j : Nat) : Int))).toNat = i - min i j := by omega
 have e4 : (-1074 + (j : Int) - (-1074 + ((min i j : Nat) : Int))).toNat = j - min i j := by omega
 rw [hmin] at hz ⊢
 rw [e3, e4, signedInt, signedInt] at hz
 have sA : m * 2 ^ i = m * 2 ^ (i - min i j) * 2 ^ min i j := by rw [Nat.mul_assoc, ← Nat.pow_add, show i - min i j + min i j = i by omega]
 have sB : n * 2 ^ j = n * 2 ^ (j - min i j) * 2 ^ min i j := by rw [Nat.mul_assoc, ← Nat.pow_add, show j - min i j + min i j = j by omega]
 have sc := nearest_scale (f := Ieee.double) (neg := neg) (mag := z.natAbs) (s := min i j) (place := -1074 + ((min i j : Nat) : Int))
 rw [show -1074 + ((min i j : Nat) : Int) - ((min i j : Nat) : Int) = -1074 - ((0 : Nat) : Int) by omega] at sc
 rw [← sc]
 rw [sA, sB] at hv
 generalize m * 2 ^ (i - min i j) = A at *
 generalize n * 2 ^ (j - min i j) = B at *
 refine nearD ?_ he1 he2 v1 v2
 rw [hv, Nat.pow_zero]
 have hU := UD_pos
 have key : sg neg ((z.natAbs : Nat) : Rat) = sg s (A : Rat) + sg t (B : Rat) := by
  suffices hzz : (if neg then -((z.natAbs : Nat) : Int) else ((z.natAbs : Nat) : Int)) = (if s then -((A : Nat) : Int) else ((A : Nat) : Int)) + (if t then -((B : Nat) : Int) else ((B : Nat) : Int)) by
   rw [sgInt, sgInt, sgInt, ← Rat.intCast_add, hzz]
  rw [← hz]
  clear hv v1 v2 sc
  by_cases h0 : z = 0
  ·rw [h0]; cases neg <;> rfl
  ·rw [hneg h0]
   by_cases h1 : z < 0
   ·rw [decide_eq_true h1, if_pos rfl]; omega
   ·rw [decide_eq_false h1]; simp only [Bool.false_eq_true, if_false]; omega
 rw [Rat.natCast_mul, Rat.natCast_mul, Rat.natCast_mul]
 generalize ((2 ^ min i j : Nat) : Rat) = P
 generalize ((z.natAbs : Nat) : Rat) = x at *
 generalize (A : Rat) = a at *
 generalize (B : Rat) = b at *
 generalize UD = U at *
 have c1 : ((1 : Nat) : Rat) = 1 := rfl
 rw [c1]
 unfold sg at key ⊢
 cases neg <;> cases s <;> cases t <;> simp only [Bool.false_eq_true, if_false, if_true] at key ⊢ <;> grind

theorem canonFD {x : Nat} (h : FD x) : fcanon .f64 x = x := canon_bdD h.1 (by omega)

theorem addD {x y : Nat} {e : Rat} (hx : FD x) (hy : FD y) (he1 : 1 / 1152921504606846976 ≤ e) (he2 : e ≤ 67108864) (v1 : -e ≤ wD x + wD y) (v2 : wD x + wD y ≤ e) :
  FD (fop .add .f64 x y) ∧ Apx (e / 4503599627370496) (wD (fop .add .f64 x y)) (wD x + wD y) := by
 obtain ⟨s, m, i, e1, w1, _⟩ := readFD hx
 obtain ⟨t, n, j, e2, w2, _⟩ := readFD hy
 rw [add_readD e1 e2]
 have := sumD (neg := (if Ieee.signed s m ((-1074 + (i : Int)) - min (-1074 + (i : Int)) (-1074 + (j : Int))).toNat + Ieee.signed t n ((-1074 + (j : Int)) - min (-1074 + (i : Int)) (-1074 + (j : Int))).toNat = 0 then s && t else Ieee.signed s m ((-1074 + (i : Int)) - min (-1074 + (i : Int)) (-1074 + (j : Int))).toNat + Ieee.signed t n ((-1074 + (j : Int)) - min (-1074 + (i : Int)) (-1074 + (j : Int))).toNat < 0)) rfl (fun h => by rw [if_neg h]) (by rw [← w1, ← w2]) he1 he2 v1 v2
 rw [canonFD this.1]
 exact this

theorem subD {x y : Nat} {e : Rat} (hx : FD x) (hy : FD y) (he1 : 1 / 1152921504606846976 ≤ e) (he2 : e ≤ 67108864) (v1 : -e ≤ wD x - wD y) (v2 : wD x - wD y ≤ e) :
  FD (fop .sub .f64 x y) ∧ Apx (e / 4503599627370496) (wD (fop .sub .f64 x y)) (wD x - wD y) := by
 obtain ⟨s, m, i, e1, w1, _⟩ := readFD hx
 obtain ⟨t, n, j, e2, w2, _⟩ := readFD hy
 rw [sub_readD e1 e2]
 have hn : sg (!t) (((n * 2 ^ j : Nat) : Rat) / UD) = -wD y := by
  rw [w2]
  unfold sg
  cases t
  ·simp
  ·simp
 have := sumD (neg := (if Ieee.signed s m ((-1074 + (i : Int)) - min (-1074 + (i : Int)) (-1074 + (j : Int))).toNat + Ieee.signed (!t) n ((-1074 + (j : Int)) - min (-1074 + (i : Int)) (-1074 + (j : Int))).toNat = 0 then s && !t else Ieee.signed s m ((-1074 + (i : Int)) - min (-1074 + (i : Int)) (-1074 + (j : Int))).toNat + Ieee.signed (!t) n ((-1074 + (j : Int)) - min (-1074 + (i : Int)) (-1074 + (j : Int))).toNat < 0)) rfl (fun h => by rw [if_neg h]) (show wD x - wD y = _ by rw [← w1, hn]; grind) he1 he2 v1 v2
 rw [canonFD this.1]
 exact this

theorem mulD {x y : Nat} {e : Rat} (hx : FD x) (hy : FD y) (he1 : 1 / 1152921504606846976 ≤ e) (he2 : e ≤ 67108864) (v1 : -e ≤ wD x * wD y) (v2 : wD x * wD y ≤ e) :
  FD (fop .mul .f64 x y) ∧ Apx (e / 4503599627370496) (wD (fop .mul .f64 x y)) (wD x * wD y) := by
 obtain ⟨s, m, i, e1, w1, _⟩ := readFD hx
 obtain ⟨t, n, j, e2, w2, _⟩ := readFD hy
 have e3 : floatBits .mul .f64 x y = some (Ieee.double.nearest (s ^^ t) (m * n) (-2148 + ((i + j : Nat) : Int))) := by
  show Ieee.double.mul x y = _
  unfold Ieee.Format.mul
  rw [e1, e2]
  show some (Ieee.double.nearest _ (m * n) (-1074 + (i : Int) + (-1074 + (j : Int)))) = _
  rw [show -1074 + (i : Int) + (-1074 + (j : Int)) = -2148 + ((i + j : Nat) : Int) by omega]
 have sc := nearest_scale (f := Ieee.double) (neg := s ^^ t) (mag := m * n) (s := i + j) (place := -2148 + ((i + j : Nat) : Int))
 rw [show -2148 + ((i + j : Nat) : Int) - ((i + j : Nat) : Int) = -1074 - ((kD : Nat) : Int) by rw [kD_int]; omega] at sc
 unfold fop
 rw [e3]
 simp only
 rw [← sc]
 have := nearD (neg := s ^^ t) (u := m * n * 2 ^ (i + j)) (s := kD) (v := wD x * wD y) (e := e) (by
  rw [w1, w2]
  have e4 : m * n * 2 ^ (i + j) = (m * 2 ^ i) * (n * 2 ^ j) := by rw [Nat.pow_add]; ac_rfl
  rw [e4, Rat.natCast_mul (m * 2 ^ i)]
  have hU := UD_pos
  have hk : ((2 ^ kD : Nat) : Rat) = UD := rfl
  rw [hk]
  generalize UD = U at *
  generalize ((m * 2 ^ i : Nat) : Rat) = a
  generalize ((n * 2 ^ j : Nat) : Rat) = b
  unfold sg
  cases s <;> cases t <;> simp only [Bool.xor_true, Bool.xor_false, Bool.not_true, Bool.not_false, Bool.false_eq_true, if_false, if_true] <;> grind) he1 he2 v1 v2
 rw [canonFD this.1]
 exact this

end Go.Proofs


/-
 Floats of 32 bits as rational numbers. Printed by single.py out of PlXA and PlXB.
-/
namespace Go.Proofs
open Go.Ide Go.IntWalk

theorem RN_abs {u s : Nat} (hf : RN u (-149 - (s : Int)) < 2139095040) :
  V32 (RN u (-149 - (s : Int))) * 2 ^ s * 16777216 ≤ u * 16777216 + u + 2 ^ s * 8388608 ∧ u * 16777216 ≤ V32 (RN u (-149 - (s : Int))) * 2 ^ s * 16777216 + u + 2 ^ s * 8388608 := by
 by_cases h0 : u = 0
 ·subst h0
  rw [RN_zero, V_zero]
  omega
 have hk2 := kept_le (neg := false) (mag := u) (f := 23) (p := -149 - (s : Int)) (last := max (-149 - (s : Int) + (u.log2 : Int) - ((23 : Nat) : Int)) (-149)) (by omega)
 have e24 : (2 : Nat) ^ (23 + 1) = 16777216 := by decide
 have e23 : (2 : Nat) ^ 23 = 8388608 := by decide
 rw [e24] at hk2
 have hfr : Ieee.single.fractionBits = 23 := rfl
 by_cases hl : 23 + s ≤ u.log2
 ·have hk := kept_ge (neg := false) (mag := u) (f := 23) (p := -149 - (s : Int)) (last := -149 - (s : Int) + (u.log2 : Int) - ((23 : Nat) : Int)) h0 rfl
  have hlast : max (-149 - (s : Int) + (u.log2 : Int) - ((23 : Nat) : Int)) (-149) = -149 - (s : Int) + (u.log2 : Int) - ((23 : Nat) : Int) := by omega
  rw [hlast] at hk2
  rw [e23] at hk
  have e1 : (-149 - (s : Int) - (-149 - (s : Int) + (u.log2 : Int) - ((23 : Nat) : Int))).toNat = 0 := by omega
  have e2 : (-149 - (s : Int) + (u.log2 : Int) - ((23 : Nat) : Int) - (-149 - (s : Int))).toNat = u.log2 - 23 := by omega
  have e3 : (-149 - (s : Int) + (u.log2 : Int) - ((23 : Nat) : Int) - -149).toNat = u.log2 - 23 - s := by omega
  rw [e1, e2, Nat.shiftLeft_zero] at hk hk2
  have hR : RN u (-149 - (s : Int)) = min ((u.log2 - 23 - s) * 8388608 + Ieee.Toward.cut .even false u (u.log2 - 23)) 2139095040 := by
   unfold RN Ieee.Format.nearest
   rw [if_neg h0]
   have hw : ∀ r, Ieee.single.word false r = r := fun r => rfl
   simp only [lp32, bi32, ir32, hfr]
   rw [hw, hlast, e1, e2, e3, Nat.shiftLeft_zero]
  rw [hR] at hf ⊢
  obtain ⟨hm, hlt⟩ := min_less hf
  rw [hm, V_code hk hk2 (Nat.lt_trans hlt (by decide)), Nat.mul_assoc (Ieee.Toward.cut _ _ _ _), ← Nat.pow_add, show u.log2 - 23 - s + s = u.log2 - 23 by omega]
  have hself := Nat.log2_self_le h0
  have := abs_core (M := 8388608) (s := s) (pow_pos2 (u.log2 - 23)) (cut_near u (u.log2 - 23)) (by
   have e : 2 ^ (u.log2 - 23) * 8388608 = 2 ^ u.log2 := by rw [← e23, ← Nat.pow_add]; congr 1; omega
   rw [e]; omega)
  exact this
 ·have hlast : max (-149 - (s : Int) + (u.log2 : Int) - ((23 : Nat) : Int)) (-149) = -149 := by omega
  rw [hlast] at hk2
  have e1 : (-149 - (s : Int) - -149).toNat = 0 := by omega
  have e2 : ((-149 : Int) - (-149 - (s : Int))).toNat = s := by omega
  have e3 : ((-149 : Int) - -149).toNat = 0 := by omega
  rw [e1, e2, Nat.shiftLeft_zero] at hk2
  have hR : RN u (-149 - (s : Int)) = min (Ieee.Toward.cut .even false u s) 2139095040 := by
   unfold RN Ieee.Format.nearest
   rw [if_neg h0]
   have hw : ∀ r, Ieee.single.word false r = r := fun r => rfl
   simp only [lp32, bi32, ir32, hfr]
   rw [hw, hlast, e1, e2, e3, Nat.shiftLeft_zero, Nat.zero_mul, Nat.zero_add]
  have hlt2 : Ieee.Toward.cut .even false u s ≤ 8388608 := by
   have h1 : u < 2 ^ (23 + s) := (Nat.log2_lt h0).1 (by omega)
   have h2 := (cut_near u s).1
   rw [Nat.pow_add, e23] at h1
   have hp := pow_pos2 s
   generalize 2 ^ s = g at *
   apply Nat.le_of_lt_succ
   apply Nat.lt_of_mul_lt_mul_right (a := g)
   rw [Nat.succ_mul]
   omega
  rw [hR, Nat.min_eq_left (by omega)]
  have hV : V32 (Ieee.Toward.cut .even false u s) = Ieee.Toward.cut .even false u s := by
   have := V_code (t := 0) (k := 8388608) (by omega) (by omega) (by omega)
   by_cases e : Ieee.Toward.cut .even false u s = 8388608
   ·rw [e]; rw [Nat.zero_mul, Nat.zero_add, Nat.pow_zero, Nat.mul_one] at this; exact this
   ·unfold V32
    rw [Nat.mod_eq_of_lt (by omega), if_pos (by omega)]
  rw [hV]
  exact abs_core (M := 8388608) (s := s) (pow_pos2 s) (cut_near u s) (by omega)

def kS : Nat := 149
theorem kS_lo : 145 ≤ kS := by decide
theorem kS_hi : kS ≤ 149 := by decide
theorem kS_int : ((kS : Nat) : Int) = 149 := rfl
attribute [irreducible] kS
theorem pw_bigS : pw (26 + kS) ≤ 2130706432 := Nat.le_trans (Nat.mul_le_mul_right _ (show 26 + kS - 22 ≤ 200 by have := kS_hi; omega)) (by decide)

def US : Rat := ((2 ^ kS : Nat) : Rat)
theorem US_pos : 0 < US := powPos kS

def wS (x : Nat) : Rat := sg (x / 2147483648 % 2 == 1) ((V32 x : Nat) : Rat) / US

def hS : Rat := 1 / (2 * US)

theorem near_signS (neg : Bool) (u : Nat) (p : Int) : Ieee.single.nearest neg u p = (if neg then 2147483648 else 0) + RN u p := by
 cases neg with
 | false => simp only [Bool.false_eq_true, if_false, Nat.zero_add]; rfl
 | true =>
  have h := nearest_neg u p
  obtain ⟨r, hr, e⟩ := nearest_word32 true u p
  have e2 : Ieee.single.word true r = 2147483648 + r := by unfold Ieee.Format.word; rw [if_pos rfl, sw32]
  rw [e, e2] at h ⊢
  rw [if_pos rfl, ← h]
  omega

theorem sgn_ofS {neg : Bool} {r : Nat} (h : r < 2147483648) : (((if neg then 2147483648 else 0) + r) / 2147483648 % 2 == 1) = neg := by
 cases neg with
 | false => simp only [Bool.false_eq_true, if_false, Nat.zero_add]; rw [Nat.div_eq_of_lt h]; rfl
 | true =>
  rw [if_pos rfl, show (2147483648 + r) / 2147483648 = 1 by omega]
  rfl

theorem V_offS {neg : Bool} {r : Nat} : V32 ((if neg then 2147483648 else 0) + r) = V32 r := by
 apply V_mod
 cases neg <;> simp

def FS (x : Nat) : Prop := bd x 254 ∧ V32 x ≤ 2 ^ (26 + kS)

theorem US_big : (1393796574908163946345982392040522594123776 : Rat) ≤ US := by
 have h : 2 ^ 140 ≤ 2 ^ kS := Nat.pow_le_pow_right (by omega) (Nat.le_trans (by omega) kS_lo)
 have := natLe h
 unfold US
 exact this

theorem nearS {neg : Bool} {u s : Nat} {v e : Rat} (hv : sg neg ((u : Rat) / (US * ((2 ^ s : Nat) : Rat))) = v) (he1 : 1 / 1152921504606846976 ≤ e) (he2 : e ≤ 67108864) (v1 : -e ≤ v) (v2 : v ≤ e) :
  FS (Ieee.single.nearest neg u (-149 - (s : Int))) ∧ Apx (e / 8388608) (wS (Ieee.single.nearest neg u (-149 - (s : Int)))) v := by
 have hp := powPos s
 have hU := US_pos
 have hUb := US_big
 have hk1 := kS_lo
 have hk2 := kS_hi
 have hUP : 0 < US * ((2 ^ s : Nat) : Rat) := Rat.mul_pos hU hp
 have hb : (u : Rat) / (US * ((2 ^ s : Nat) : Rat)) ≤ e := by
  unfold sg at hv
  cases neg
  ·simp only [Bool.false_eq_true, if_false] at hv; grind
  ·simp only [if_true] at hv; grind
 have hu : u ≤ 2 ^ ((26 + kS) + s) := by
  have h1 : (u : Rat) ≤ 67108864 * (US * ((2 ^ s : Nat) : Rat)) := by
   have e2 : (u : Rat) / (US * ((2 ^ s : Nat) : Rat)) * (US * ((2 ^ s : Nat) : Rat)) = (u : Rat) := by
    generalize US * ((2 ^ s : Nat) : Rat) = z at *
    grind
   rw [← e2]
   exact Rat.mul_le_mul_of_nonneg_right (Rat.le_trans hb he2) (Rat.le_of_lt hUP)
  have h2 : (67108864 : Rat) * (US * ((2 ^ s : Nat) : Rat)) = ((2 ^ ((26 + kS) + s) : Nat) : Rat) := by
   rw [Nat.pow_add, Nat.pow_add, Rat.natCast_mul, Rat.natCast_mul, Rat.mul_assoc]
   rfl
  rw [h2] at h1
  exact Rat.natCast_le_natCast.1 h1
 have hle : RN u (-149 - (s : Int)) ≤ pw (26 + kS) := RN_le (by omega) (by omega) hu
 have hpw := pw_bigS
 obtain ⟨h1, h2⟩ := RN_abs (u := u) (s := s) (by omega)
 rw [near_signS]
 have hV : V32 (RN u (-149 - (s : Int))) ≤ 2 ^ (26 + kS) := by
  rw [← V_pw (m := 26 + kS) (by omega) (by omega)]
  exact V_mono (by omega) (by omega) hle
 have hr : RN u (-149 - (s : Int)) ≤ 2130706432 := by omega
 clear hu hle hpw
 refine ⟨⟨?_, ?_⟩, ?_⟩
 ·unfold bd
  cases neg
  ·simp only [Bool.false_eq_true, if_false]; omega
  ·simp only [if_true]; omega
 ·rw [V_offS]; exact hV
 ·clear hV
  unfold wS
  rw [sgn_ofS (by omega), V_offS]
  generalize V32 (RN u (-149 - (s : Int))) = V at *
  have n1 := natLe h1
  have n2 := natLe h2
  simp only [Rat.natCast_mul, Rat.natCast_add] at n1 n2
  clear h1 h2 hr
  unfold Apx
  generalize ((2 ^ s : Nat) : Rat) = P at *
  generalize US = U at *
  generalize (u : Rat) = x at *
  generalize (V : Rat) = y at *
  have c1 : (((16777216 : Nat) : Rat)) = 16777216 := rfl
  have c2 : (((8388608 : Nat) : Rat)) = 8388608 := rfl
  rw [c1, c2] at n1 n2
  have e1 : y / U * (U * P) = y * P := by grind
  have e2 : x / (U * P) * (U * P) = x := by grind
  have e3 : 1 / (2 * U) * (U * P) = P / 2 := by grind
  have main : y / U ≤ x / (U * P) + (x / (U * P) / 16777216 + 1 / (2 * U)) ∧ x / (U * P) ≤ y / U + (x / (U * P) / 16777216 + 1 / (2 * U)) := by
   constructor
   ·refine Rat.le_of_mul_le_mul_right ?_ hUP
    have : (x / (U * P) + (x / (U * P) / 16777216 + 1 / (2 * U))) * (U * P) = x + x / 16777216 + P / 2 := by grind
    rw [this, e1]
    grind
   ·refine Rat.le_of_mul_le_mul_right ?_ hUP
    have : (y / U + (x / (U * P) / 16777216 + 1 / (2 * U))) * (U * P) = y * P + x / 16777216 + P / 2 := by grind
    rw [this, e2]
    grind
  have hd : 1 / (2 * U) ≤ 1 / 1393796574908163946345982392040522594123776 := by
   refine Rat.le_of_mul_le_mul_right ?_ (c := 2 * U) (by grind)
   have : 1 / (2 * U) * (2 * U) = 1 := by grind
   rw [this]
   grind
  have eng : sg neg y / U = sg neg (y / U) := by
   unfold sg
   cases neg
   ·simp
   ·simp only [if_true]; grind
  rw [eng]
  obtain ⟨m1, m2⟩ := main
  generalize y / U = a at *
  generalize x / (U * P) = b at *
  generalize 1 / (2 * U) = d at *
  unfold sg at hv ⊢
  cases neg
  ·simp only [Bool.false_eq_true, if_false] at hv ⊢; constructor <;> grind
  ·simp only [if_true] at hv ⊢; constructor <;> grind

theorem readFS {x : Nat} (h : FS x) : ∃ sn m i, Ieee.single.read x = .number sn m (-149 + ((i : Nat) : Int)) ∧ wS x = sg sn (((m * 2 ^ i : Nat) : Rat) / US) ∧ V32 x = m * 2 ^ i := by
 obtain ⟨m, i, e, v⟩ := read_V h.1 (by omega) (by omega)
 refine ⟨_, m, i, e, ?_, v⟩
 unfold wS
 rw [sgC, v]

theorem sumS {s t : Bool} {m n i j : Nat} {neg : Bool} {z : Int} {e v : Rat} (hz : z = Ieee.signed s m ((-149 + (i : Int)) - min (-149 + (i : Int)) (-149 + (j : Int))).toNat + Ieee.signed t n ((-149 + (j : Int)) - min (-149 + (i : Int)) (-149 + (j : Int))).toNat)
  (hneg : z ≠ 0 → neg = decide (z < 0)) (hv : v = sg s (((m * 2 ^ i : Nat) : Rat) / US) + sg t (((n * 2 ^ j : Nat) : Rat) / US)) (he1 : 1 / 1152921504606846976 ≤ e) (he2 : e ≤ 67108864) (v1 : -e ≤ v) (v2 : v ≤ e) :
  FS (Ieee.single.nearest neg z.natAbs (min (-149 + (i : Int)) (-149 + (j : Int)))) ∧ Apx (e / 8388608) (wS (Ieee.single.nearest neg z.natAbs (min (-149 + (i : Int)) (-149 + (j : Int))))) v := by
 have hmin : min (-149 + (i : Int)) (-149 + (j : Int)) = -149 + ((min i j : Nat) : Int) := by omega
 have e3 : (-149 + (i : Int) - (-149 + ((min i j : Nat) : Int))).toNat = i - min i j := by omega
 have e4 : (-149 + (j : Int) - (-149 + ((min i j : Nat) : Int))).toNat = j - min i j := by omega
 rw [hmin] at hz ⊢
 rw [e3, e4, signedInt, signedInt] at hz
 have sA : m * 2 ^ i = m * 2 ^ (i - min i j) * 2 ^ min i j := by rw [Nat.mul_assoc, ← Nat.pow_add, show i - min i j + min i j = i by omega]
 have sB : n * 2 ^ j = n * 2 ^ (j - min i j) * 2 ^ min i j := by rw [Nat.mul_assoc, ← Nat.pow_add, show j - min i j + min i j = j by omega]
 have sc := nearest_scale (f := Ieee.single) (neg := neg) (mag := z.natAbs) (s := min i j) (place := -149 + ((min i j : Nat) : Int))
 rw [show -149 + ((min i j : Nat) : Int) - ((min i j : Nat) : Int) = -149 - ((0 : Nat) : Int) by omega] at sc
 rw [← sc]
 rw [sA, sB] at hv
 generalize m * 2 ^ (i - min i j) = A at *
 generalize n * 2 ^ (j - min i j) = B at *
 refine nearS ?_ he1 he2 v1 v2
 rw [hv, Nat.pow_zero]
 have hU := US_pos
 have key : sg neg ((z.natAbs : Nat) : Rat) = sg s (A : Rat) + sg t (B : Rat) := by
  suffices hzz : (if neg then -((z.natAbs : Nat) : Int) else ((z.natAbs : Nat) : Int)) = (if s then -((A : Nat) : Int) else ((A : Nat) : Int)) + (if t then -((B : Nat) : Int) else ((B : Nat) : Int)) by
   rw [sgInt, sgInt, sgInt, ← Rat.intCast_add, hzz]
  rw [← hz]
  clear hv v1 v2 sc
  by_cases h0 : z = 0
  ·rw [h0]; cases neg <;> rfl
  ·rw [hneg h0]
   by_cases h1 : z < 0
   ·rw [decide_eq_true h1, if_pos rfl]; omega
   ·rw [decide_eq_false h1]; simp only [Bool.false_eq_true, if_false]; omega
 rw [Rat.natCast_mul, Rat.natCast_mul, Rat.natCast_mul]
 generalize ((2 ^ min i j : Nat) : Rat) = P
 generalize ((z.natAbs : Nat) : Rat) = x at *
 generalize (A : Rat) = a at *
 generalize (B : Rat) = b at *
 generalize US = U at *
 have c1 : ((1 : Nat) : Rat) = 1 := rfl
 rw [c1]
 unfold sg at key ⊢
 cases neg <;> cases s <;> cases t <;> simp only [Bool.false_eq_true, if_false, if_true] at key ⊢ <;> grind

theorem canonFS {x : Nat} (h : FS x) : fcanon .f32 x = x := canon_bd h.1 (by omega)

theorem addS {x y : Nat} {e : Rat} (hx : FS x) (hy : FS y) (he1 : 1 / 1152921504606846976 ≤ e) (he2 : e ≤ 67108864) (v1 : -e ≤ wS x + wS y) (v2 : wS x + wS y ≤ e) :
  FS (fop .add .f32 x y) ∧ Apx (e / 8388608) (wS (fop .add .f32 x y)) (wS x + wS y) := by
 obtain ⟨s, m, i, e1, w1, _⟩ := readFS hx
 obtain ⟨t, n, j, e2, w2, _⟩ := readFS hy
 rw [add_read e1 e2]
 have := sumS (neg := (if Ieee.signed s m ((-149 + (i : Int)) - min (-149 + (i : Int)) (-149 + (j : Int))).toNat + Ieee.signed t n ((-149 + (j : Int)) - min (-149 + (i : Int)) (-149 + (j : Int))).toNat = 0 then s && t else Ieee.signed s m ((-149 + (i : Int)) - min (-149 + (i : Int)) (-149 + (j : Int))).toNat + Ieee.signed t n ((-149 + (j : Int)) - min (-149 + (i : Int)) (-149 + (j : Int))).toNat < 0)) rfl (fun h => by rw [if_neg h]) (by rw [← w1, ← w2]) he1 he2 v1 v2
 rw [canonFS this.1]
 exact this

end Go.Proofs


/-
 Quotients; floats of 32 bits as floats of 64, and back; the order.
-/
namespace Go.Proofs
open Go.Ide Go.IntWalk

theorem stickyD {n M Q : Nat} (hn : 0 < n) (hQ : Q = 2 * (M / n) + (M % n != 0).toNat) : Q * n ≤ 2 * M + n ∧ 2 * M ≤ Q * n + n := by
 have h1 := Nat.div_add_mod M n
 have h2 := Nat.mod_lt M hn
 generalize M / n = q at *
 generalize M % n = r at *
 subst hQ
 rw [Nat.add_mul, Nat.mul_assoc, Nat.mul_comm q n]
 by_cases e : r = 0
 ·subst e
  simp only [bne_self_eq_false, Bool.toNat_false, Nat.zero_mul]
  omega
 ·have : (r != 0) = true := by simpa using e
  rw [this]
  simp only [Bool.toNat_true, Nat.one_mul]
  omega

theorem quoR {s t : Bool} {U a b g M N K e q : Rat} (hU : 0 < U) (ha : 0 < a) (hb : 0 < b) (hg : 0 < g) (hn : 0 < N) (m0 : 0 ≤ M) (n1 : K * N ≤ ((2 : Nat) : Rat) * (M * g) + N) (n2 : ((2 : Nat) : Rat) * (M * g) ≤ K * N + N)
  (n3 : M ≠ 0 → N * 9007199254740992 ≤ M * g) (n4 : M = 0 → K = 0) (hq : q * sg t (N * b / U) = sg s (M * a / U)) (he : 1 / 1152921504606846976 ≤ e) (v1 : -e ≤ q) (v2 : q ≤ e) : Apx (e / 9007199254740992) (sg (s ^^ t) (K * a / (b * g * 2))) q := by
 have h2 : ((2 : Nat) : Rat) = 2 := rfl
 rw [h2] at n1 n2
 have hbg : 0 < b * g := Rat.mul_pos hb hg
 have hz : ∃ z, z = M * a / (N * b) := ⟨_, rfl⟩
 obtain ⟨z, hz⟩ := hz
 have hNb : 0 < N * b := Rat.mul_pos hn hb
 have z0 : 0 ≤ z := by
  rw [hz]
  refine Rat.le_of_mul_le_mul_right ?_ hNb
  have : M * a / (N * b) * (N * b) = M * a := by grind
  rw [this, Rat.zero_mul]
  exact Rat.mul_nonneg m0 (Rat.le_of_lt ha)
 have hqz : q = sg (s ^^ t) z := by
  have hNU : N * b / U ≠ 0 := by
   intro h
   have : N * b / U * U = N * b := by grind
   rw [h] at this
   grind
  unfold sg at hq ⊢
  cases s <;> cases t <;> simp only [Bool.xor_true, Bool.xor_false, Bool.not_true, Bool.not_false, Bool.false_eq_true, if_false, if_true] at hq ⊢ <;> grind
 -- K a / (2 b g) is near z
 have main : Apx (z / 9007199254740992) (K * a / (b * g * 2)) z := by
  by_cases hM : M = 0
  ·have hK := n4 hM
   have : z = 0 := by rw [hz, hM]; grind
   rw [this, hK]
   constructor <;> grind
  ·have h3 := n3 hM
   have hW : 0 < N * (b * g * 2) := Rat.mul_pos hn (by grind)
   have ez : z * (N * (b * g * 2)) = 2 * (M * g) * a := by rw [hz]; grind
   have ek : K * a / (b * g * 2) * (N * (b * g * 2)) = K * N * a := by grind
   have a1 := Rat.mul_le_mul_of_nonneg_right n1 (Rat.le_of_lt ha)
   have a2 := Rat.mul_le_mul_of_nonneg_right n2 (Rat.le_of_lt ha)
   have a3 := Rat.mul_le_mul_of_nonneg_right h3 (Rat.le_of_lt ha)
   constructor
   ·refine Rat.le_of_mul_le_mul_right ?_ hW
    have : (z + z / 9007199254740992) * (N * (b * g * 2)) = z * (N * (b * g * 2)) + z * (N * (b * g * 2)) / 9007199254740992 := by grind
    rw [this, ek, ez]
    grind
   ·refine Rat.le_of_mul_le_mul_right ?_ hW
    have : (K * a / (b * g * 2) + z / 9007199254740992) * (N * (b * g * 2)) = K * a / (b * g * 2) * (N * (b * g * 2)) + z * (N * (b * g * 2)) / 9007199254740992 := by grind
    rw [this, ek, ez]
    grind
 obtain ⟨k1, k2⟩ := main
 generalize K * a / (b * g * 2) = k at *
 subst hqz
 clear hq hz n1 n2 n3 n4
 unfold sg at v1 v2 ⊢
 cases s <;> cases t <;> simp only [Bool.xor_true, Bool.xor_false, Bool.not_true, Bool.not_false, Bool.false_eq_true, if_false, if_true] at v1 v2 ⊢ <;> constructor <;> grind

theorem bigD {m n : Nat} (hm : m ≠ 0) (h : m < 9007199254740992) : n * 9007199254740992 ≤ m * 2 ^ (52 + 2 + n.log2 - m.log2) := by
 have hlm2 := Nat.log2_self_le hm
 have hln2 : n < 2 ^ (n.log2 + 1) := Nat.lt_log2_self
 have hmlog : m.log2 ≤ 52 := by
  have := (Nat.log2_lt (k := 53) hm).2 (by omega); omega
 have q1 : 2 ^ m.log2 * 2 ^ (52 + 2 + n.log2 - m.log2) ≤ m * 2 ^ (52 + 2 + n.log2 - m.log2) := Nat.mul_le_mul_right _ hlm2
 rw [← Nat.pow_add, show m.log2 + (52 + 2 + n.log2 - m.log2) = (n.log2 + 1) + 53 by omega, Nat.pow_add] at q1
 have e53 : (2 : Nat) ^ 53 = 9007199254740992 := by decide
 rw [e53] at q1
 exact Nat.le_trans (Nat.mul_le_mul_right _ (Nat.le_of_lt hln2)) q1

theorem quoD {x y : Nat} {e q : Rat} (hx : FD x) (hy : FD y) (hy0 : wD y ≠ 0) (hq : q * wD y = wD x) (he1 : 1 / 1152921504606846976 ≤ e) (he2 : e ≤ 33554432) (v1 : -e ≤ q) (v2 : q ≤ e) :
  FD (fop .quo .f64 x y) ∧ Apx (e / 1125899906842624) (wD (fop .quo .f64 x y)) q := by
 obtain ⟨s, m, i, e1, w1, _⟩ := readFD hx
 obtain ⟨t, n, j, e2, w2, _⟩ := readFD hy
 have hU := UD_pos
 have hn : n ≠ 0 := by
  rintro rfl
  apply hy0
  rw [w2, Nat.zero_mul]
  unfold sg
  cases t <;> grind
 have hf : Ieee.double.fractionBits = 52 := rfl
 have e3 : floatBits .quo .f64 x y = some (Ieee.double.nearest (s ^^ t) (2 * (m * 2 ^ (52 + 2 + n.log2 - m.log2) / n) + (m * 2 ^ (52 + 2 + n.log2 - m.log2) % n != 0).toNat) (-1074 + (i : Int) - (-1074 + (j : Int)) - ((52 + 2 + n.log2 - m.log2 : Nat) : Int) - 1)) := by
  show Ieee.double.div x y = _
  unfold Ieee.Format.div
  rw [e1, e2]
  unfold Ieee.Datum.quotient
  simp only [hf, Nat.shiftLeft_eq]
  rw [if_neg hn]
  rfl
 have hbig : m ≠ 0 → n * 9007199254740992 ≤ m * 2 ^ (52 + 2 + n.log2 - m.log2) := fun hm => bigD hm (read_smallD e1)
 unfold fop
 rw [e3]
 simp only
 generalize 52 + 2 + n.log2 - m.log2 = more at *
 obtain ⟨s1, s2⟩ := stickyD (Nat.pos_of_ne_zero hn) (rfl : 2 * (m * 2 ^ more / n) + (m * 2 ^ more % n != 0).toNat = _)
 have hm0 : m = 0 → 2 * (m * 2 ^ more / n) + (m * 2 ^ more % n != 0).toNat = 0 := by rintro rfl; simp
 generalize 2 * (m * 2 ^ more / n) + (m * 2 ^ more % n != 0).toNat = Q at *
 have sc := nearest_scale (f := Ieee.double) (neg := s ^^ t) (mag := Q) (s := i + kD) (place := -1074 + (i : Int) - (-1074 + (j : Int)) - ((more : Nat) : Int) - 1)
 rw [show -1074 + (i : Int) - (-1074 + (j : Int)) - ((more : Nat) : Int) - 1 - ((i + kD : Nat) : Int) = -1074 - ((j + more + 1 : Nat) : Int) by have := kD_int; omega] at sc
 rw [← sc]
 -- the values
 have hb := powPos j
 have hg := powPos more
 have ha := powPos i
 have hnR : (0 : Rat) < (n : Rat) := natPos (Nat.pos_of_ne_zero hn)
 have n1 := natLe s1
 have n2 := natLe s2
 have n3 : (m : Rat) ≠ 0 → (n : Rat) * 9007199254740992 ≤ (m : Rat) * ((2 ^ more : Nat) : Rat) := by
  intro h
  have hm : m ≠ 0 := by rintro rfl; exact h rfl
  have := natLe (hbig hm)
  rw [Rat.natCast_mul, Rat.natCast_mul] at this
  exact this
 have n4 : (m : Rat) = 0 → (Q : Rat) = 0 := by
  intro h
  have hm : m = 0 := by
   have : ((m : Nat) : Rat) = ((0 : Nat) : Rat) := h
   exact Rat.natCast_inj.1 this
  rw [hm0 hm]; rfl
 have m0 : (0 : Rat) ≤ (m : Rat) := by have := natLe (Nat.zero_le m); simpa using this
 simp only [Rat.natCast_mul, Rat.natCast_add] at n1 n2
 have hv : ((Q * 2 ^ (i + kD) : Nat) : Rat) / (UD * ((2 ^ (j + more + 1) : Nat) : Rat)) = (Q : Rat) * ((2 ^ i : Nat) : Rat) / (((2 ^ j : Nat) : Rat) * ((2 ^ more : Nat) : Rat) * 2) := by
  rw [Nat.pow_add, Nat.pow_succ, Nat.pow_add, Rat.natCast_mul, Rat.natCast_mul, Rat.natCast_mul, Rat.natCast_mul]
  have hk : ((2 ^ kD : Nat) : Rat) = UD := rfl
  have h2 : ((2 : Nat) : Rat) = 2 := rfl
  rw [hk, h2]
  generalize UD = U at *
  generalize ((2 ^ i : Nat) : Rat) = a at *
  generalize ((2 ^ j : Nat) : Rat) = b at *
  generalize ((2 ^ more : Nat) : Rat) = g at *
  have : b * g ≠ 0 := Rat.ne_of_gt (Rat.mul_pos hb hg)
  grind
 -- the value before it is rounded
 have hw : wD x = sg s ((m : Rat) * ((2 ^ i : Nat) : Rat) / UD) := by rw [w1, Rat.natCast_mul]
 have hw2 : wD y = sg t ((n : Rat) * ((2 ^ j : Nat) : Rat) / UD) := by rw [w2, Rat.natCast_mul]
 rw [hw, hw2] at hq
 have key : Apx (e / 9007199254740992) (sg (s ^^ t) ((Q : Rat) * ((2 ^ i : Nat) : Rat) / (((2 ^ j : Nat) : Rat) * ((2 ^ more : Nat) : Rat) * 2))) q := by
  clear hv sc e1 e2 e3 s1 s2 hm0 hbig w1 w2 hw hw2 hy0 hx hy hf
  generalize UD = U at *
  generalize ((2 ^ i : Nat) : Rat) = a at *
  generalize ((2 ^ j : Nat) : Rat) = b at *
  generalize ((2 ^ more : Nat) : Rat) = g at *
  generalize (m : Rat) = M at *
  generalize (n : Rat) = N at *
  generalize (Q : Rat) = K at *
  exact quoR hU ha hb hg hnR m0 n1 n2 n3 n4 hq he1 v1 v2
 obtain ⟨k1, k2⟩ := key
 have hvv := nearD (neg := s ^^ t) (u := Q * 2 ^ (i + kD)) (s := j + more + 1) (e := 2 * e) rfl (by grind) (by grind) (by rw [hv]; grind) (by rw [hv]; grind)
 rw [canonFD hvv.1]
 refine ⟨hvv.1, ?_⟩
 obtain ⟨p1, p2⟩ := hvv.2
 rw [hv] at p1 p2
 constructor <;> grind

end Go.Proofs


/-
 The order of floats of 64 bits; floats of 32 bits as floats of 64, and back.
-/
namespace Go.Proofs
open Go.Ide Go.IntWalk

theorem scaleD {s : Bool} {m i c : Nat} (h : c ≤ i) : sg s (((m * 2 ^ i : Nat) : Rat) / UD) = ((if s then -((m * 2 ^ (i - c) : Nat) : Int) else ((m * 2 ^ (i - c) : Nat) : Int) : Int) : Rat) * (((2 ^ c : Nat) : Rat) / UD) := by
 rw [show m * 2 ^ i = m * 2 ^ (i - c) * 2 ^ c by rw [Nat.mul_assoc, ← Nat.pow_add, show i - c + c = i by omega], ← sgInt, Rat.natCast_mul]
 generalize ((m * 2 ^ (i - c) : Nat) : Rat) = a
 generalize ((2 ^ c : Nat) : Rat) = b
 have hU := UD_pos
 generalize UD = U at *
 unfold sg
 cases s
 ·simp only [Bool.false_eq_true, if_false]; grind
 ·simp only [if_true]; grind

theorem orderD {x y : Nat} (hx : FD x) (hy : FD y) : ∃ A B : Int, Ieee.double.order x y = some (compare A B) ∧ (A < B ↔ wD x < wD y) ∧ (A = B ↔ wD x = wD y) := by
 obtain ⟨s, m, i, e1, w1, _⟩ := readFD hx
 obtain ⟨t, n, j, e2, w2, _⟩ := readFD hy
 have hmin : min (-1074 + (i : Int)) (-1074 + (j : Int)) = -1074 + ((min i j : Nat) : Int) := by omega
 have e3 : (-1074 + (i : Int) - (-1074 + ((min i j : Nat) : Int))).toNat = i - min i j := by omega
 have e4 : (-1074 + (j : Int) - (-1074 + ((min i j : Nat) : Int))).toNat = j - min i j := by omega
 have h : Ieee.double.order x y = some (compare (Ieee.signed s m (i - min i j)) (Ieee.signed t n (j - min i j))) := by
  show Ieee.Datum.order (Ieee.double.read x) (Ieee.double.read y) = _
  rw [e1, e2]
  show some (compare (Ieee.signed s m (-1074 + (i : Int) - min (-1074 + (i : Int)) (-1074 + (j : Int))).toNat) (Ieee.signed t n (-1074 + (j : Int) - min (-1074 + (i : Int)) (-1074 + (j : Int))).toNat)) = _
  rw [hmin, e3, e4]
 refine ⟨_, _, h, ?_⟩
 rw [w1, w2, scaleD (c := min i j) (by omega), scaleD (c := min i j) (by omega), signedInt, signedInt]
 generalize (if s then -((m * 2 ^ (i - min i j) : Nat) : Int) else ((m * 2 ^ (i - min i j) : Nat) : Int)) = A
 generalize (if t then -((n * 2 ^ (j - min i j) : Nat) : Int) else ((n * 2 ^ (j - min i j) : Nat) : Int)) = B
 have hk : 0 < ((2 ^ min i j : Nat) : Rat) / UD := by
  have h1 := powPos (min i j)
  have h2 := UD_pos
  generalize ((2 ^ min i j : Nat) : Rat) = a at *
  generalize UD = U at *
  refine Rat.lt_of_mul_lt_mul_right (c := U) ?_ (Rat.le_of_lt h2)
  have : a / U * U = a := by grind
  rw [this, Rat.zero_mul]; exact h1
 generalize ((2 ^ min i j : Nat) : Rat) / UD = k at *
 have i1 := Rat.intCast_lt_intCast (a := A) (b := B)
 have i2 : (A = B ↔ (A : Rat) = (B : Rat)) := Rat.intCast_inj.symm
 rw [← i1, i2]
 generalize (A : Rat) = a
 generalize (B : Rat) = b
 constructor
 ·rw [Rat.mul_comm a, Rat.mul_comm b]; exact (Rat.mul_lt_mul_left hk).symm
 ·constructor
  ·intro h; rw [h]
  ·intro h; grind

theorem flt_w {x y : Nat} (hx : FD x) (hy : FD y) : flt .f64 x y = decide (wD x < wD y) := by
 obtain ⟨A, B, h, h1, h2⟩ := orderD hx hy
 have e : flt .f64 x y = (Ieee.double.order x y == some .lt) := rfl
 rw [e, h]
 simp only [compare, compareOfLessAndEq, ← h1]
 by_cases c : A < B
 ·rw [if_pos c, decide_eq_true c]; rfl
 ·rw [if_neg c, decide_eq_false c]
  by_cases d : A = B
  ·rw [if_pos d]; rfl
  ·rw [if_neg d]; rfl

theorem fgt_w {x y : Nat} (hx : FD x) (hy : FD y) : fgt .f64 x y = decide (wD y < wD x) := by
 obtain ⟨A, B, h, h1, h2⟩ := orderD hx hy
 have e : fgt .f64 x y = (Ieee.double.order x y == some .gt) := rfl
 rw [e, h]
 simp only [compare, compareOfLessAndEq]
 by_cases c : A < B
 ·have := h1.1 c
  rw [if_pos c, decide_eq_false (by grind)]; rfl
 ·rw [if_neg c]
  have c' : ¬ wD x < wD y := fun h => c (h1.2 h)
  by_cases d : A = B
  ·have := h2.1 d
   rw [if_pos d, decide_eq_false (by grind)]; rfl
  ·have d' : ¬ wD x = wD y := fun h => d (h2.2 h)
   rw [if_neg d, decide_eq_true (by grind)]; rfl

theorem fge_w {x y : Nat} (hx : FD x) (hy : FD y) : fge .f64 x y = decide (wD y ≤ wD x) := by
 obtain ⟨A, B, h, h1, h2⟩ := orderD hx hy
 have e : fge .f64 x y = (Ieee.double.order x y == some .gt || Ieee.double.order x y == some .eq) := rfl
 rw [e, h]
 simp only [compare, compareOfLessAndEq]
 by_cases c : A < B
 ·have := h1.1 c
  rw [if_pos c, decide_eq_false (by grind)]; rfl
 ·rw [if_neg c]
  have c' : ¬ wD x < wD y := fun h => c (h1.2 h)
  rw [decide_eq_true (show wD y ≤ wD x by grind)]
  by_cases d : A = B
  ·rw [if_pos d]; rfl
  ·rw [if_neg d]; rfl

theorem feq_w {x y : Nat} (hx : FD x) (hy : FD y) : feq .f64 x y = decide (wD x = wD y) := by
 obtain ⟨A, B, h, h1, h2⟩ := orderD hx hy
 have e : feq .f64 x y = (Ieee.double.order x y == some .eq) := rfl
 rw [e, h]
 simp only [compare, compareOfLessAndEq, ← h2]
 by_cases c : A < B
 ·rw [if_pos c, decide_eq_false (by omega)]; rfl
 ·rw [if_neg c]
  by_cases d : A = B
  ·rw [if_pos d, decide_eq_true d]; rfl
  ·rw [if_neg d, decide_eq_false d]; rfl

theorem UD_US {k : Nat} (hk : k = 925) : UD = ((2 ^ k : Nat) : Rat) * US := by
 unfold UD US
 rw [← Rat.natCast_mul, ← Nat.pow_add]
 have : kD = k + kS := by have := kD_int; have := kS_int; omega
 rw [this]

theorem upD {x : Nat} {e : Rat} (hx : FS x) (he1 : 1 / 1152921504606846976 ≤ e) (he2 : e ≤ 67108864) (v1 : -e ≤ wS x) (v2 : wS x ≤ e) : FD (fconv .f32 .f64 x) ∧ Apx (e / 4503599627370496) (wD (fconv .f32 .f64 x)) (wS x) := by
 obtain ⟨k, hk⟩ : ∃ k : Nat, k = 925 := ⟨_, rfl⟩
 obtain ⟨s, m, i, e1, w1, _⟩ := readFS hx
 have h1 : fconv .f32 .f64 x = fcanon .f64 (Ieee.double.nearest s m (-149 + (i : Int))) := by
  unfold fconv
  rw [if_neg (by decide)]
  have e' : FloatKind.decode .f32 x = .number s m (-149 + (i : Int)) := e1
  rw [e']
  rfl
 have sc := nearest_scale (f := Ieee.double) (neg := s) (mag := m) (s := i + k) (place := -149 + (i : Int))
 rw [show -149 + (i : Int) - ((i + k : Nat) : Int) = -1074 - ((0 : Nat) : Int) by omega] at sc
 rw [h1, ← sc]
 have := nearD (neg := s) (u := m * 2 ^ (i + k)) (s := 0) (v := wS x) (e := e) (by
  rw [w1, Nat.pow_add, ← Nat.mul_assoc, Rat.natCast_mul (m * 2 ^ i)]
  have hp := powPos k
  have hU := US_pos
  rw [UD_US hk]
  generalize ((2 ^ k : Nat) : Rat) = g at *
  generalize US = U at *
  generalize ((m * 2 ^ i : Nat) : Rat) = a
  have c1 : ((2 ^ 0 : Nat) : Rat) = 1 := rfl
  rw [c1]
  unfold sg
  cases s
  ·simp only [Bool.false_eq_true, if_false]; grind
  ·simp only [if_true]; grind) he1 he2 v1 v2
 rw [canonFD this.1]
 exact this

theorem downD {x : Nat} {e : Rat} (hx : FD x) (he1 : 1 / 1152921504606846976 ≤ e) (he2 : e ≤ 67108864) (v1 : -e ≤ wD x) (v2 : wD x ≤ e) : fconvOK .f64 .f32 x = true ∧ FS (fconv .f64 .f32 x) ∧ Apx (e / 8388608) (wS (fconv .f64 .f32 x)) (wD x) := by
 obtain ⟨k, hk⟩ : ∃ k : Nat, k = 925 := ⟨_, rfl⟩
 obtain ⟨s, m, i, e1, w1, _⟩ := readFD hx
 have e' : FloatKind.decode .f64 x = .number s m (-1074 + (i : Int)) := e1
 have h1 : fconv .f64 .f32 x = fcanon .f32 (Ieee.single.nearest s m (-1074 + (i : Int))) := by
  unfold fconv
  rw [if_neg (by decide), e']
  rfl
 have sc := nearest_scale (f := Ieee.single) (neg := s) (mag := m) (s := i) (place := -1074 + (i : Int))
 rw [show -1074 + (i : Int) - ((i : Nat) : Int) = -149 - ((k : Nat) : Int) by omega] at sc
 have := nearS (neg := s) (u := m * 2 ^ i) (s := k) (v := wD x) (e := e) (by
  rw [w1]
  have hp := powPos k
  have hU := US_pos
  rw [UD_US hk]
  generalize ((2 ^ k : Nat) : Rat) = g at *
  generalize US = U at *
  generalize ((m * 2 ^ i : Nat) : Rat) = a
  unfold sg
  cases s
  ·simp only [Bool.false_eq_true, if_false]; grind
  ·simp only [if_true]; grind) he1 he2 v1 v2
 rw [sc] at this
 refine ⟨?_, ?_⟩
 ·unfold fconvOK
  rw [if_neg (by decide), e']
  show (!(Ieee.single.read (Ieee.single.nearest s m (-1074 + (i : Int)))).isInfinity) = true
  obtain ⟨s', m', i', e2, _⟩ := readFS this.1
  rw [e2]
  rfl
 ·rw [h1, canonFS this.1]
  exact this

end Go.Proofs


/-
 The exponential function in floats of 64 bits: near a polynomial to the power 256.
-/
namespace Go.Proofs
open Go.Ide Go.IntWalk

def Bd (A a : Rat) : Prop := -A ≤ a ∧ a ≤ A

theorem Bd.mul {A B a b : Rat} (h : Bd A a) (h' : Bd B b) : Bd (A * B) (a * b) := by
 obtain ⟨h1, h2⟩ := h
 obtain ⟨h3, h4⟩ := h'
 have p1 := Rat.mul_nonneg (show 0 ≤ A - a by grind) (show 0 ≤ B - b by grind)
 have p2 := Rat.mul_nonneg (show 0 ≤ A + a by grind) (show 0 ≤ B + b by grind)
 have p3 := Rat.mul_nonneg (show 0 ≤ A - a by grind) (show 0 ≤ B + b by grind)
 have p4 := Rat.mul_nonneg (show 0 ≤ A + a by grind) (show 0 ≤ B - b by grind)
 constructor <;> grind

theorem Bd.add {A B a b : Rat} (h : Bd A a) (h' : Bd B b) : Bd (A + B) (a + b) := by
 obtain ⟨h1, h2⟩ := h
 obtain ⟨h3, h4⟩ := h'
 constructor <;> grind

theorem Bd.mono {A B a : Rat} (h : Bd A a) (hl : A ≤ B) : Bd B a := by
 obtain ⟨h1, h2⟩ := h
 constructor <;> grind

theorem Apx.bd {e a b : Rat} (h : Apx e a b) : Bd e (a - b) := by
 obtain ⟨h1, h2⟩ := h
 constructor <;> grind

theorem litD {x c d : Nat} (h1 : x < 9223372036854775808) (hd : 0 < d) (h : V32D x * d = c * 2 ^ kD) : wD x = (c : Rat) / (d : Rat) := by
 have hU := UD_pos
 have hdR := natPos hd
 have h2 : ((V32D x : Nat) : Rat) * (d : Rat) = (c : Rat) * UD := by
  rw [← Rat.natCast_mul, h, Rat.natCast_mul]
  rfl
 unfold wD
 rw [Nat.div_eq_of_lt h1]
 show sg false _ / UD = _
 unfold sg
 simp only [Bool.false_eq_true, if_false]
 generalize UD = U at *
 generalize ((V32D x : Nat) : Rat) = v at *
 generalize (c : Rat) = C at *
 generalize (d : Rat) = D at *
 grind

theorem litFD {x : Nat} (h1 : x ≤ 4724276009111650304) : FD x := by
 refine ⟨by unfold bdD; omega, ?_⟩
 have hp : 4724276009111650304 ≤ pwD (26 + kD) := by
  have := kD_int
  unfold pwD; omega
 rw [← V_pwD (m := 26 + kD) (by have := kD_lo; omega) (by have := kD_hi; omega)]
 have := pw_big
 exact V_monoD (by omega) (by omega) (Nat.le_trans h1 hp)

theorem one_w : wD 4607182418800017408 = 1 := by
 have := litD (x := 4607182418800017408) (c := 1) (d := 1) (by omega) (by omega) (by decide +kernel)
 rw [this, show ((1 : Nat) : Rat) = 1 from rfl]; grind
theorem one_F : FD 4607182418800017408 := litFD (by omega)

theorem expStep {t p K : Nat} {c : Rat} (ht : FD t) (hp : FD p) (hK : FD K) (t1 : Bd (1 / 8) (wD t)) (p1 : Bd (6 / 5) (wD p)) (hc : wD K = c) (c1 : 1 ≤ c) :
  FD (fop .add .f64 4607182418800017408 (fop .quo .f64 (fop .mul .f64 t p) K)) ∧ Apx (1 / 1000000000000) (wD (fop .add .f64 4607182418800017408 (fop .quo .f64 (fop .mul .f64 t p) K))) (1 + wD t * wD p / c) := by
 have b1 := t1.mul p1
 obtain ⟨m1, m2⟩ := mulD (e := 1) ht hp (by grind) (by grind) (by have := b1.1; grind) (by have := b1.2; grind)
 generalize fop .mul .f64 t p = a at *
 generalize wD t * wD p = ab at *
 obtain ⟨m3, m4⟩ := m2
 obtain ⟨b2, b3⟩ := b1
 have ci : ∃ i, i * c = 1 ∧ 0 ≤ i ∧ i ≤ 1 := by
  refine ⟨1 / c, by grind, ?_, ?_⟩
  ·refine Rat.le_of_mul_le_mul_right (c := c) ?_ (by grind)
   have : 1 / c * c = 1 := by grind
   rw [this]; grind
  ·refine Rat.le_of_mul_le_mul_right (c := c) ?_ (by grind)
   have : 1 / c * c = 1 := by grind
   rw [this]; grind
 obtain ⟨i, i1, i2, i3⟩ := ci
 have e1 : ab / c = ab * i := by grind
 have q0 := Bd.mul (A := 1) (B := 1) (a := wD a) (b := i) ⟨by grind, by grind⟩ ⟨by grind, by grind⟩
 obtain ⟨q1, q2⟩ := quoD (e := 1) (q := wD a * i) m1 hK (by rw [hc]; grind) (by rw [hc]; grind) (by grind) (by grind) (by have := q0.1; grind) (by have := q0.2; grind)
 generalize fop .quo .f64 a K = b at *
 obtain ⟨q3, q4⟩ := q2
 have d0 := Bd.mul (A := 1 / 4503599627370496) (B := 1) (a := wD a - ab) (b := i) ⟨by grind, by grind⟩ ⟨by grind, by grind⟩
 obtain ⟨d1, d2⟩ := d0
 obtain ⟨q5, q6⟩ := q0
 obtain ⟨s1, s2⟩ := addD (e := 4) one_F q1 (by grind) (by grind) (by rw [one_w]; grind) (by rw [one_w]; grind)
 rw [one_w] at s2
 obtain ⟨s3, s4⟩ := s2
 refine ⟨s1, ?_⟩
 rw [e1]
 constructor <;> grind

def T6 (t : Rat) : Rat := 1 + t * (1 + t * (1 + t * (1 + t * (1 + t * (1 + t * 1 / 6) / 5) / 4) / 3) / 2) / 1

theorem intLit {k x c : Nat} (h : fofint .f64 (k : Int) = x) (hx : x ≤ 4724276009111650304) (hv : V32D x * 1 = c * 2 ^ kD) : FD (fofint .f64 (k : Int)) ∧ wD (fofint .f64 (k : Int)) = (c : Rat) := by
 rw [h]
 refine ⟨litFD hx, ?_⟩
 rw [litD (by omega) (by omega) hv, show ((1 : Nat) : Rat) = 1 from rfl]
 grind

theorem ints : ∀ k : Nat, 1 ≤ k → k ≤ 12 → FD (fofint .f64 (k : Int)) ∧ wD (fofint .f64 (k : Int)) = (k : Rat) := by
 intro k h1 h2
 have hk : k = 1 ∨ k = 2 ∨ k = 3 ∨ k = 4 ∨ k = 5 ∨ k = 6 ∨ k = 7 ∨ k = 8 ∨ k = 9 ∨ k = 10 ∨ k = 11 ∨ k = 12 := by omega
 rcases hk with rfl | rfl | rfl | rfl | rfl | rfl | rfl | rfl | rfl | rfl | rfl | rfl
 ·exact intLit (x := 4607182418800017408) (by decide +kernel) (by omega) (by decide +kernel)
 ·exact intLit (x := 4611686018427387904) (by decide +kernel) (by omega) (by decide +kernel)
 ·exact intLit (x := 4613937818241073152) (by decide +kernel) (by omega) (by decide +kernel)
 ·exact intLit (x := 4616189618054758400) (by decide +kernel) (by omega) (by decide +kernel)
 ·exact intLit (x := 4617315517961601024) (by decide +kernel) (by omega) (by decide +kernel)
 ·exact intLit (x := 4618441417868443648) (by decide +kernel) (by omega) (by decide +kernel)
 ·exact intLit (x := 4619567317775286272) (by decide +kernel) (by omega) (by decide +kernel)
 ·exact intLit (x := 4620693217682128896) (by decide +kernel) (by omega) (by decide +kernel)
 ·exact intLit (x := 4621256167635550208) (by decide +kernel) (by omega) (by decide +kernel)
 ·exact intLit (x := 4621819117588971520) (by decide +kernel) (by omega) (by decide +kernel)
 ·exact intLit (x := 4622382067542392832) (by decide +kernel) (by omega) (by decide +kernel)
 ·exact intLit (x := 4622945017495814144) (by decide +kernel) (by omega) (by decide +kernel)

theorem expRound {a0 p k : Nat} {h e : Rat} (k1 : 1 ≤ k) (k2 : k ≤ 12) (ht : FD (fop .quo .f64 a0 4643211215818981376)) (t1 : Bd (1 / 8) (wD (fop .quo .f64 a0 4643211215818981376))) (hp : FD p) (p1 : Bd (6 / 5) (wD p)) (ha : Apx e (wD p) h) (e0 : 0 ≤ e) :
  ∃ p', spec_l01ExpWide_B2 a0 (p, (k : Int)) = some (.inl (p', ((k - 1 : Nat) : Int))) ∧ FD p' ∧ Bd (6 / 5) (wD p') ∧ Apx (e / (8 * (k : Rat)) + 1 / 1000000000000) (wD p') (1 + wD (fop .quo .f64 a0 4643211215818981376) * h / (k : Rat)) := by
 obtain ⟨hK, hc⟩ := ints k k1 k2
 have c1 : (1 : Rat) ≤ (k : Rat) := by have := natLe k1; exact this
 obtain ⟨s1, s2⟩ := expStep ht hp hK t1 p1 hc c1
 refine ⟨_, ?_, s1, ?_, ?_⟩
 ·unfold spec_l01ExpWide_B2
  simp only [show decide ((k : Int) ≥ 1) = true from decide_eq_true (by omega), cond_true]
  rw [show wsub .i64 (k : Int) 1 = ((k - 1 : Nat) : Int) by rw [wsubI (by omega)]; omega]
 all_goals
  generalize wD (fop .quo .f64 a0 4643211215818981376) = t at *
  generalize wD p = P at *
  generalize (k : Rat) = c at *
  have ci : ∃ i, i * c = 1 ∧ 0 ≤ i ∧ i ≤ 1 := by
   refine ⟨1 / c, by grind, ?_, ?_⟩
   ·refine Rat.le_of_mul_le_mul_right (c := c) ?_ (by grind)
    have : 1 / c * c = 1 := by grind
    rw [this]; grind
   ·refine Rat.le_of_mul_le_mul_right (c := c) ?_ (by grind)
    have : 1 / c * c = 1 := by grind
    rw [this]; grind
  obtain ⟨i, i1, i2, i3⟩ := ci
  obtain ⟨s3, s4⟩ := s2
 ·have b := (t1.mul p1).mul (B := 1) (b := i) ⟨by grind, by grind⟩
  have e1 : t * P / c = t * P * i := by grind
  rw [e1] at s3 s4
  obtain ⟨b1, b2⟩ := b
  constructor <;> grind
 ·have b := (t1.mul ha.bd).mul (B := i) (b := i) ⟨by grind, by grind⟩
  have e1 : t * P / c = t * P * i := by grind
  have e2 : t * h / c = t * h * i := by grind
  have e3 : e / (8 * c) = 1 / 8 * e * i := by grind
  rw [e1] at s3 s4
  rw [e2, e3]
  obtain ⟨b1, b2⟩ := b
  constructor <;> grind

end Go.Proofs


/-
 Near in ratio; the exponential function of floats is near T6 (y / 256) to the power 256.
-/
namespace Go.Proofs
open Go.Ide Go.IntWalk

def rho : Rat := 100000001 / 100000000
theorem rho_eq : rho = 100000001 / 100000000 := rfl
attribute [irreducible] rho

def rp : Nat → Rat
 | 0 => 1
 | k + 1 => rp k * rho

theorem rp_ge : ∀ k, 1 ≤ rp k
 | 0 => by unfold rp; grind
 | k + 1 => by
  have h := rp_ge k
  have := Rat.mul_le_mul_of_nonneg_left (show 1 ≤ rho by rw [rho_eq]; grind) (show 0 ≤ rp k by grind)
  unfold rp
  grind

theorem rp_add (k : Nat) : ∀ l, rp (k + l) = rp k * rp l
 | 0 => by show rp k = rp k * 1; grind
 | l + 1 => by
  show rp (k + l) * rho = rp k * (rp l * rho)
  rw [rp_add k l]; grind

theorem rp_mono {k l : Nat} (h : k ≤ l) : rp k ≤ rp l := by
 obtain ⟨d, rfl⟩ := Nat.exists_eq_add_of_le h
 rw [rp_add]
 have := Rat.mul_le_mul_of_nonneg_left (rp_ge d) (show 0 ≤ rp k by have := rp_ge k; grind)
 grind

theorem rp_le : ∀ k : Nat, k ≤ 10000000 → rp k ≤ 1 + (k : Rat) / 50000000
 | 0, _ => by show (1 : Rat) ≤ 1 + ((0 : Nat) : Rat) / 50000000; rw [show ((0 : Nat) : Rat) = 0 from rfl]; grind
 | k + 1, hk => by
  have h := rp_le k (by omega)
  have hk' := natLe (show k ≤ 10000000 by omega)
  rw [show ((10000000 : Nat) : Rat) = 10000000 from rfl] at hk'
  have h0 : (0 : Rat) ≤ (k : Rat) := natLe (Nat.zero_le k)
  rw [Rat.natCast_add, show ((1 : Nat) : Rat) = 1 from rfl]
  show rp k * rho ≤ _
  have := Rat.mul_le_mul_of_nonneg_right h (show 0 ≤ rho by rw [rho_eq]; grind)
  rw [rho_eq] at this ⊢
  grind

def Nq (k : Nat) (x y : Rat) : Prop := x ≤ y * rp k ∧ y ≤ x * rp k

theorem Nq.symm {k : Nat} {x y : Rat} (h : Nq k x y) : Nq k y x := ⟨h.2, h.1⟩
theorem Nq.refl {x : Rat} (h : 0 ≤ x) : Nq 0 x x := by
 have : rp 0 = 1 := rfl
 unfold Nq
 rw [this]
 constructor <;> grind
theorem Nq.mono {k l : Nat} {x y : Rat} (h : Nq k x y) (hx : 0 ≤ x) (hy : 0 ≤ y) (hl : k ≤ l) : Nq l x y := by
 have m := rp_mono hl
 have a := Rat.mul_le_mul_of_nonneg_left m hx
 have b := Rat.mul_le_mul_of_nonneg_left m hy
 obtain ⟨h1, h2⟩ := h
 constructor <;> grind
theorem Nq.trans {k l : Nat} {x y z : Rat} (h : Nq k x y) (h' : Nq l y z) : Nq (k + l) x z := by
 obtain ⟨h1, h2⟩ := h
 obtain ⟨h3, h4⟩ := h'
 have pk : 0 ≤ rp k := by have := rp_ge k; grind
 have pl : 0 ≤ rp l := by have := rp_ge l; grind
 have a := Rat.mul_le_mul_of_nonneg_right h3 pk
 have b := Rat.mul_le_mul_of_nonneg_right h2 pl
 unfold Nq
 rw [rp_add]
 constructor <;> grind
theorem Nq.mul {k l : Nat} {x y z w : Rat} (h : Nq k x y) (h' : Nq l z w) (hx : 0 ≤ x) (hy : 0 ≤ y) (hz : 0 ≤ z) (hw : 0 ≤ w) : Nq (k + l) (x * z) (y * w) := by
 obtain ⟨h1, h2⟩ := h
 obtain ⟨h3, h4⟩ := h'
 have pk : 0 ≤ rp k := by have := rp_ge k; grind
 have pl : 0 ≤ rp l := by have := rp_ge l; grind
 have a1 := Rat.mul_le_mul_of_nonneg_right h1 hz
 have a2 := Rat.mul_le_mul_of_nonneg_left h3 (Rat.mul_nonneg hy pk)
 have b1 := Rat.mul_le_mul_of_nonneg_right h2 hw
 have b2 := Rat.mul_le_mul_of_nonneg_left h4 (Rat.mul_nonneg hx pk)
 unfold Nq
 rw [rp_add]
 constructor <;> grind

theorem Nq.of_apx {e x y : Rat} {k : Nat} (h : Apx e x y) (hx : e * 100000000 ≤ x * (k : Rat)) (hy : e * 100000000 ≤ y * (k : Rat)) (px : 0 ≤ x) (py : 0 ≤ y) : Nq k x y := by
 have hr : ∀ k : Nat, 1 + (k : Rat) / 100000000 ≤ rp k := by
  intro k
  induction k with
  | zero => show 1 + ((0 : Nat) : Rat) / 100000000 ≤ 1; rw [show ((0 : Nat) : Rat) = 0 from rfl]; grind
  | succ k ih =>
   have h1 := rp_ge k
   rw [Rat.natCast_add, show ((1 : Nat) : Rat) = 1 from rfl]
   show _ ≤ rp k * rho
   rw [rho_eq]
   grind
 have hk := hr k
 obtain ⟨h1, h2⟩ := h
 have a := Rat.mul_le_mul_of_nonneg_left hk px
 have b := Rat.mul_le_mul_of_nonneg_left hk py
 constructor <;> grind

def sqn : Nat → Rat → Rat
 | 0, x => x
 | n + 1, x => sqn n x * sqn n x

theorem sqn_nn : ∀ n {x : Rat}, 0 ≤ x → 0 ≤ sqn n x
 | 0, _, h => h
 | n + 1, _, h => Rat.mul_nonneg (sqn_nn n h) (sqn_nn n h)

theorem sqn_near : ∀ n {k : Nat} {x y : Rat}, Nq k x y → 0 ≤ x → 0 ≤ y → Nq (2 ^ n * k) (sqn n x) (sqn n y)
 | 0, k, x, y, h, _, _ => by rw [Nat.pow_zero, Nat.one_mul]; exact h
 | n + 1, k, x, y, h, hx, hy => by
  have := sqn_near n h hx hy
  have t := this.mul this (sqn_nn n hx) (sqn_nn n hy) (sqn_nn n hx) (sqn_nn n hy)
  rw [show 2 ^ (n + 1) * k = 2 ^ n * k + 2 ^ n * k by rw [Nat.pow_succ, Nat.mul_assoc, Nat.mul_comm 2 k, Nat.mul_two, Nat.mul_add]]
  exact t

theorem sqn_mul : ∀ n {x y : Rat}, sqn n (x * y) = sqn n x * sqn n y
 | 0, _, _ => rfl
 | n + 1, x, y => by
  show sqn n (x * y) * sqn n (x * y) = (sqn n x * sqn n x) * (sqn n y * sqn n y)
  rw [sqn_mul n]; grind

theorem expHorner {a0 : Nat} (ht : FD (fop .quo .f64 a0 4643211215818981376)) (t1 : Bd (1 / 8) (wD (fop .quo .f64 a0 4643211215818981376))) :
  ∃ p, rounds (spec_l01ExpWide_B2 a0) ((4607182418800017408 : Nat), (12 : Int)) = some p ∧ FD p ∧ Bd (6 / 5) (wD p) ∧ Apx (1 / 4000000000) (wD p) (T6 (wD (fop .quo .f64 a0 4643211215818981376))) := by
 have ap0 : ∀ x : Rat, Apx 0 x x := fun x => ⟨by grind, by grind⟩
 obtain ⟨p12, r12, f12, b12, _⟩ := expRound (k := 12) (by omega) (by omega) ht t1 one_F (by rw [one_w]; exact ⟨by grind, by grind⟩) (ap0 _) (by grind)
 obtain ⟨p11, r11, f11, b11, _⟩ := expRound (k := 11) (by omega) (by omega) ht t1 f12 b12 (ap0 _) (by grind)
 obtain ⟨p10, r10, f10, b10, _⟩ := expRound (k := 10) (by omega) (by omega) ht t1 f11 b11 (ap0 _) (by grind)
 obtain ⟨p9, r9, f9, b9, _⟩ := expRound (k := 9) (by omega) (by omega) ht t1 f10 b10 (ap0 _) (by grind)
 obtain ⟨p8, r8, f8, b8, _⟩ := expRound (k := 8) (by omega) (by omega) ht t1 f9 b9 (ap0 _) (by grind)
 obtain ⟨p7, r7, f7, b7, a7⟩ := expRound (k := 7) (by omega) (by omega) ht t1 f8 b8 (ap0 _) (by grind)
 have a7' : Apx (1 / 40) (wD p7) 1 := by
  have b := t1.mul b8
  rw [show ((7 : Nat) : Rat) = 7 from rfl] at a7
  obtain ⟨x1, x2⟩ := a7
  obtain ⟨x3, x4⟩ := b
  constructor <;> grind
 obtain ⟨p6, r6, f6, b6, a6⟩ := expRound (k := 6) (by omega) (by omega) ht t1 f7 b7 a7' (by grind)
 have c6 : ((6 : Nat) : Rat) = 6 := rfl
 rw [c6] at a6
 obtain ⟨p5, r5, f5, b5, a5⟩ := expRound (k := 5) (by omega) (by omega) ht t1 f6 b6 a6 (by grind)
 have c5 : ((5 : Nat) : Rat) = 5 := rfl
 rw [c5] at a5
 obtain ⟨p4, r4, f4, b4, a4⟩ := expRound (k := 4) (by omega) (by omega) ht t1 f5 b5 a5 (by grind)
 have c4 : ((4 : Nat) : Rat) = 4 := rfl
 rw [c4] at a4
 obtain ⟨p3, r3, f3, b3, a3⟩ := expRound (k := 3) (by omega) (by omega) ht t1 f4 b4 a4 (by grind)
 have c3 : ((3 : Nat) : Rat) = 3 := rfl
 rw [c3] at a3
 obtain ⟨p2, r2, f2, b2, a2⟩ := expRound (k := 2) (by omega) (by omega) ht t1 f3 b3 a3 (by grind)
 have c2 : ((2 : Nat) : Rat) = 2 := rfl
 rw [c2] at a2
 obtain ⟨p1, r1, f1, b1, a1⟩ := expRound (k := 1) (by omega) (by omega) ht t1 f2 b2 a2 (by grind)
 have c1 : ((1 : Nat) : Rat) = 1 := rfl
 rw [c1] at a1
 refine ⟨p1, ?_, f1, b1, ?_⟩
 ·rw [show (12 : Int) = ((12 : Nat) : Int) from rfl, rounds_eq, r12]
  simp only
  rw [rounds_eq, r11]
  simp only
  rw [rounds_eq, r10]
  simp only
  rw [rounds_eq, r9]
  simp only
  rw [rounds_eq, r8]
  simp only
  rw [rounds_eq, r7]
  simp only
  rw [rounds_eq, r6]
  simp only
  rw [rounds_eq, r5]
  simp only
  rw [rounds_eq, r4]
  simp only
  rw [rounds_eq, r3]
  simp only
  rw [rounds_eq, r2]
  simp only
  rw [rounds_eq, r1]
  simp only
  rw [rounds_eq, show spec_l01ExpWide_B2 a0 (p1, ((1 - 1 : Nat) : Int)) = some (.inr p1) from rfl]
 ·unfold T6
  obtain ⟨x1, x2⟩ := a1
  generalize wD (fop .quo .f64 a0 4643211215818981376) = t at *
  constructor <;> grind

end Go.Proofs


/-
 ExpNumber is near T6 (y / 256) to the power 256.
-/
namespace Go.Proofs
open Go.Ide Go.IntWalk

theorem negLit {r : Nat} (h : r ≤ 4724276009111650304) : FD (9223372036854775808 + r) ∧ wD (9223372036854775808 + r) = -wD r := by
 have e1 := sgn_of (neg := true) (r := r) (by omega)
 have e2 := V_offD (neg := true) (r := r)
 have e3 := sgn_of (neg := false) (r := r) (by omega)
 simp only [if_true, Bool.false_eq_true, if_false, Nat.zero_add] at e1 e2 e3
 have hF := litFD h
 refine ⟨⟨?_, ?_⟩, ?_⟩
 ·unfold bdD; omega
 ·rw [e2]; exact hF.2
 ·unfold wD
  rw [e1, e2, e3]
  unfold sg
  have hU := UD_pos
  simp only [if_true, Bool.false_eq_true, if_false]
  grind

theorem lipStep {t s p q c d e : Rat} (t1 : Bd (1 / 8) t) (hp : Bd (6 / 5) q) (ht : Apx d t s) (ha : Apx e p q) (c1 : 1 ≤ c) (d0 : 0 ≤ d) (e0 : 0 ≤ e) : Apx (e / 8 + 2 * d) (1 + t * p / c) (1 + s * q / c) := by
 have ci : ∃ i, i * c = 1 ∧ 0 ≤ i ∧ i ≤ 1 := by
  refine ⟨1 / c, by grind, ?_, ?_⟩
  ·refine Rat.le_of_mul_le_mul_right (c := c) ?_ (by grind)
   have : 1 / c * c = 1 := by grind
   rw [this]; grind
  ·refine Rat.le_of_mul_le_mul_right (c := c) ?_ (by grind)
   have : 1 / c * c = 1 := by grind
   rw [this]; grind
 obtain ⟨i, i1, i2, i3⟩ := ci
 have b1 := (t1.mul ha.bd).mul (B := 1) (b := i) ⟨by grind, by grind⟩
 have b2 := (ht.bd.mul hp).mul (B := 1) (b := i) ⟨by grind, by grind⟩
 have e1 : t * p / c = t * p * i := by grind
 have e2 : s * q / c = s * q * i := by grind
 rw [e1, e2]
 obtain ⟨x1, x2⟩ := b1
 obtain ⟨x3, x4⟩ := b2
 constructor <;> grind

theorem bdStep {t p c : Rat} (t1 : Bd (1 / 8) t) (hp : Bd (6 / 5) p) (c1 : 1 ≤ c) : Bd (6 / 5) (1 + t * p / c) ∧ 4 / 5 ≤ 1 + t * p / c := by
 have ci : ∃ i, i * c = 1 ∧ 0 ≤ i ∧ i ≤ 1 := by
  refine ⟨1 / c, by grind, ?_, ?_⟩
  ·refine Rat.le_of_mul_le_mul_right (c := c) ?_ (by grind)
   have : 1 / c * c = 1 := by grind
   rw [this]; grind
  ·refine Rat.le_of_mul_le_mul_right (c := c) ?_ (by grind)
   have : 1 / c * c = 1 := by grind
   rw [this]; grind
 obtain ⟨i, i1, i2, i3⟩ := ci
 have b1 := (t1.mul hp).mul (B := 1) (b := i) ⟨by grind, by grind⟩
 have e1 : t * p / c = t * p * i := by grind
 rw [e1]
 obtain ⟨x1, x2⟩ := b1
 refine ⟨⟨by grind, by grind⟩, by grind⟩

theorem T6_bd {t : Rat} (t1 : Bd (1 / 8) t) : Bd (6 / 5) (T6 t) ∧ 4 / 5 ≤ T6 t := by
 unfold T6
 have h6 := (bdStep (p := 1) (c := 6) t1 ⟨by grind, by grind⟩ (by grind)).1
 have h5 := (bdStep (c := 5) t1 h6 (by grind)).1
 have h4 := (bdStep (c := 4) t1 h5 (by grind)).1
 have h3 := (bdStep (c := 3) t1 h4 (by grind)).1
 have h2 := (bdStep (c := 2) t1 h3 (by grind)).1
 exact bdStep (c := 1) t1 h2 (by grind)

theorem T6_lip {t s d : Rat} (t1 : Bd (1 / 8) t) (s1 : Bd (1 / 8) s) (h : Apx d t s) (d0 : 0 ≤ d) : Apx (3 * d) (T6 t) (T6 s) := by
 unfold T6
 have h6 := (bdStep (p := 1) (c := 6) s1 ⟨by grind, by grind⟩ (by grind)).1
 have h5 := (bdStep (c := 5) s1 h6 (by grind)).1
 have h4 := (bdStep (c := 4) s1 h5 (by grind)).1
 have h3 := (bdStep (c := 3) s1 h4 (by grind)).1
 have h2 := (bdStep (c := 2) s1 h3 (by grind)).1
 have a6 := lipStep (p := 1) (q := 1) (c := 6) (e := 0) t1 ⟨by grind, by grind⟩ h ⟨by grind, by grind⟩ (by grind) d0 (by grind)
 have a5 := lipStep (c := 5) t1 h6 h a6 (by grind) d0 (by grind)
 have a4 := lipStep (c := 4) t1 h5 h a5 (by grind) d0 (by grind)
 have a3 := lipStep (c := 3) t1 h4 h a4 (by grind) d0 (by grind)
 have a2 := lipStep (c := 2) t1 h3 h a3 (by grind) d0 (by grind)
 have a1 := lipStep (c := 1) t1 h2 h a2 (by grind) d0 (by grind)
 obtain ⟨x1, x2⟩ := a1
 constructor <;> grind

theorem sqn_between {x L : Rat} (hx : 0 ≤ x) (hL : L ≤ 1) (n : Nat) (h1 : L ≤ sqn n x) (h2 : sqn n x ≤ 2) : ∀ j, j ≤ n → L ≤ sqn j x ∧ sqn j x ≤ 2 := by
 by_cases c : 1 ≤ x
 ·have ge : ∀ j, 1 ≤ sqn j x := by
   intro j
   induction j with
   | zero => exact c
   | succ j ih =>
    have := Rat.mul_le_mul_of_nonneg_left ih (show 0 ≤ sqn j x by grind)
    show 1 ≤ sqn j x * sqn j x
    grind
  have up : ∀ d j, sqn j x ≤ sqn (j + d) x := by
   intro d
   induction d with
   | zero => intro j; exact Rat.le_refl
   | succ d ih =>
    intro j
    have h := ih j
    have g := ge (j + d)
    have := Rat.mul_le_mul_of_nonneg_left g (show 0 ≤ sqn (j + d) x by grind)
    show sqn j x ≤ sqn (j + d) x * sqn (j + d) x
    grind
  intro j hj
  have := up (n - j) j
  rw [show j + (n - j) = n by omega] at this
  have := ge j
  constructor <;> grind
 ·have le : ∀ j, sqn j x ≤ 1 := by
   intro j
   induction j with
   | zero => show x ≤ 1; grind
   | succ j ih =>
    have g := sqn_nn j hx
    have := Rat.mul_le_mul_of_nonneg_left ih g
    show sqn j x * sqn j x ≤ 1
    grind
  have dn : ∀ d j, sqn (j + d) x ≤ sqn j x := by
   intro d
   induction d with
   | zero => intro j; exact Rat.le_refl
   | succ d ih =>
    intro j
    have h := ih j
    have g := le (j + d)
    have := Rat.mul_le_mul_of_nonneg_left g (sqn_nn (j + d) hx)
    show sqn (j + d) x * sqn (j + d) x ≤ sqn j x
    grind
  intro j hj
  have := dn (n - j) j
  rw [show j + (n - j) = n by omega] at this
  have := le j
  constructor <;> grind

def sqk : Nat → Nat
 | 0 => 1
 | j + 1 => 2 * sqk j + 1

theorem sqk_le {j : Nat} (h : j ≤ 8) : sqk j ≤ 511 := by
 have hk : j = 0 ∨ j = 1 ∨ j = 2 ∨ j = 3 ∨ j = 4 ∨ j = 5 ∨ j = 6 ∨ j = 7 ∨ j = 8 := by omega
 rcases hk with rfl | rfl | rfl | rfl | rfl | rfl | rfl | rfl | rfl <;> decide

theorem expSquares {p0 : Nat} {x : Rat} (hp : FD p0) (h0 : Nq 1 (wD p0) x) (p1 : 0 ≤ wD p0) (hx : 0 ≤ x) (l1 : 1 / 1099511627776 ≤ sqn 8 x) (l2 : sqn 8 x ≤ 2) :
  ∃ p, rounds spec_l01ExpWide_B1 (p0, (0 : Int)) = some p ∧ FD p ∧ Nq 511 (wD p) (sqn 8 x) ∧ 0 ≤ wD p := by
 have hb := sqn_between (L := 1 / 1099511627776) hx (by grind) 8 l1 l2
 have := rounds_inv (f := spec_l01ExpWide_B1) (fun m s => ∃ (j p : Nat), s = (p, (j : Int)) ∧ m = 8 - j ∧ j ≤ 8 ∧ FD p ∧ Nq (sqk j) (wD p) (sqn j x) ∧ 0 ≤ wD p) (fun p => FD p ∧ Nq 511 (wD p) (sqn 8 x) ∧ 0 ≤ wD p) (by
  rintro m s ⟨j, p, rfl, rfl, hj, hF, hN, hP⟩
  by_cases h : j < 8
  ·left
   have hkk := sqk_le hj
   have hs := sqn_nn j hx
   have hN2 := hN.mul hN hP hs hP hs
   have hr := rp_le (sqk j + sqk j) (by omega)
   have hcast := natLe (show sqk j + sqk j ≤ 1022 by omega)
   rw [show ((1022 : Nat) : Rat) = 1022 from rfl] at hcast
   have hr1 := rp_ge (sqk j + sqk j)
   obtain ⟨b1, b2⟩ := hb (j + 1) (by omega)
   have hsq : sqn j x * sqn j x = sqn (j + 1) x := rfl
   rw [hsq] at hN2
   have hPP := Rat.mul_nonneg hP hP
   have hlo : 1 / 2199023255552 ≤ wD p * wD p := by
    obtain ⟨_, n2⟩ := hN2
    have := Rat.mul_le_mul_of_nonneg_left (show rp (sqk j + sqk j) ≤ 2 by grind) hPP
    grind
   have hhi : wD p * wD p ≤ 4 := by
    obtain ⟨n1, _⟩ := hN2
    have := Rat.mul_le_mul_of_nonneg_left (show rp (sqk j + sqk j) ≤ 2 by grind) (show 0 ≤ sqn (j + 1) x by grind)
    grind
   obtain ⟨m1, m2⟩ := mulD (e := wD p * wD p + 1 / 1152921504606846976) hF hF (by grind) (by grind) (by grind) (by grind)
   have m2' := m2
   obtain ⟨m3, m4⟩ := m2'
   have hpos : 0 ≤ wD (fop .mul .f64 p p) := by grind
   have hnear : Nq 1 (wD (fop .mul .f64 p p)) (wD p * wD p) := Nq.of_apx m2 (by rw [show ((1 : Nat) : Rat) = 1 from rfl]; grind) (by rw [show ((1 : Nat) : Rat) = 1 from rfl]; grind) hpos hPP
   have hfin := hnear.trans hN2
   refine ⟨8 - (j + 1), (fop .mul .f64 p p, ((j + 1 : Nat) : Int)), by omega, ?_, j + 1, _, rfl, rfl, by omega, m1, ?_, hpos⟩
   ·unfold spec_l01ExpWide_B1
    simp only [show decide ((j : Int) < 8) = true from decide_eq_true (by omega), cond_true]
    rw [show wadd .i64 (j : Int) 1 = ((j + 1 : Nat) : Int) from nextN h (by omega)]
   ·have : sqk (j + 1) = 1 + (sqk j + sqk j) := by show 2 * sqk j + 1 = _; omega
    rw [this]; exact hfin
  ·right
   have : j = 8 := by omega
   subst this
   refine ⟨p, ?_, hF, ?_, hP⟩
   ·unfold spec_l01ExpWide_B1
    rfl
   ·exact hN) 8 (p0, ((0 : Nat) : Int)) ⟨0, p0, rfl, rfl, by omega, hp, h0, p1⟩
 exact this

theorem w256 : FD 4643211215818981376 ∧ wD 4643211215818981376 = 256 := ⟨litFD (by omega), by rw [litD (c := 256) (d := 1) (by omega) (by omega) (by decide +kernel), show ((1 : Nat) : Rat) = 1 from rfl, show ((256 : Nat) : Rat) = 256 from rfl]; grind⟩
theorem w200 : FD 4641240890982006784 ∧ wD 4641240890982006784 = 200 := ⟨litFD (by omega), by rw [litD (c := 200) (d := 1) (by omega) (by omega) (by decide +kernel), show ((1 : Nat) : Rat) = 1 from rfl, show ((200 : Nat) : Rat) = 200 from rfl]; grind⟩
theorem wn200 : FD 13864612927836782592 ∧ wD 13864612927836782592 = -200 := by
 have := negLit (r := 4641240890982006784) (by omega)
 rw [w200.2] at this
 exact this

theorem expOk {y : Nat} (hy : FS y) (y1 : Bd 30 (wS y)) (l1 : 1 / 1099511627776 ≤ sqn 8 (T6 (wS y / 256))) (l2 : sqn 8 (T6 (wS y / 256)) ≤ 2) :
  ∃ r, spec_ExpNumber y = some r ∧ FS r ∧ Apx (1 / 50000 * sqn 8 (T6 (wS y / 256))) (wS r) (sqn 8 (T6 (wS y / 256))) := by
 obtain ⟨y3, y4⟩ := y1
 obtain ⟨u1, u2, u3⟩ := upD (e := 32) hy (by grind) (by grind) (by grind) (by grind)
 generalize hz : wS y = z at *
 generalize ha : fconv .f32 .f64 y = a at *
 obtain ⟨d1, d2⟩ := quoD (e := 1 / 4) (q := wD a / 256) u1 w256.1 (by rw [w256.2]; grind) (by rw [w256.2]; grind) (by grind) (by grind) (by grind) (by grind)
 have hap : Apx (1 / 1000000000000) (wD (fop .quo .f64 a 4643211215818981376)) (z / 256) := by
  obtain ⟨x1, x2⟩ := d2
  constructor <;> grind
 have tb : Bd (1 / 8) (wD (fop .quo .f64 a 4643211215818981376)) := by
  obtain ⟨x1, x2⟩ := hap
  constructor <;> grind
 have zb : Bd (1 / 8) (z / 256) := by constructor <;> grind
 obtain ⟨p, r1, f1, b1, a1⟩ := expHorner d1 tb
 have a2 := T6_lip tb zb hap (by grind)
 obtain ⟨k1, k2⟩ := T6_bd zb
 have a3 : Apx (1 / 2000000000) (wD p) (T6 (z / 256)) := by
  obtain ⟨x1, x2⟩ := a1
  obtain ⟨x3, x4⟩ := a2
  constructor <;> grind
 have pp : 3 / 4 ≤ wD p := by obtain ⟨x1, x2⟩ := a3; grind
 have n1 : Nq 1 (wD p) (T6 (z / 256)) := Nq.of_apx a3 (by rw [show ((1 : Nat) : Rat) = 1 from rfl]; grind) (by rw [show ((1 : Nat) : Rat) = 1 from rfl]; grind) (by grind) (by grind)
 obtain ⟨w, r2, f2, n2, w0⟩ := expSquares f1 n1 (by grind) (by grind) l1 l2
 have hr := rp_le 511 (by omega)
 rw [show ((511 : Nat) : Rat) = 511 from rfl] at hr
 have s0 : 0 ≤ sqn 8 (T6 (z / 256)) := by grind
 generalize sqn 8 (T6 (z / 256)) = S at *
 obtain ⟨n3, n4⟩ := n2
 have q1 := Rat.mul_le_mul_of_nonneg_left hr s0
 have q2 := Rat.mul_le_mul_of_nonneg_left hr w0
 obtain ⟨g1, g2, g3⟩ := downD (e := wD w + 1 / 1152921504606846976) f2 (by grind) (by grind) (by grind) (by grind)
 refine ⟨fconv .f64 .f32 w, ?_, g2, ?_⟩
 ·unfold spec_ExpNumber spec_l01Exp spec_l01ExpWide spec_l01Narrow
  rw [ha, feq_w u1 u1, fgt_w u1 w200.1, flt_w u1 wn200.1, w200.2, wn200.2]
  rw [decide_eq_true rfl, decide_eq_false (show ¬ (200 : Rat) < wD a by grind), decide_eq_false (show ¬ wD a < -200 by grind)]
  simp only [Bool.not_true, cond_false, r1, Option.bind_some, r2]
  rw [guard_pos g1]
  rfl
 ·obtain ⟨g4, g5⟩ := g3
  constructor <;> grind

end Go.Proofs


/-
 T6 turns sums into products, nearly. Printed by expadd.py.
-/
namespace Go.Proofs
open Go.Ide Go.IntWalk

theorem Bd.pow {A a : Rat} (h : Bd A a) : ∀ n : Nat, Bd (A ^ n) (a ^ n)
 | 0 => by rw [Rat.pow_zero, Rat.pow_zero]; exact ⟨by grind, by grind⟩
 | n + 1 => by rw [Rat.pow_succ, Rat.pow_succ]; exact (Bd.pow h n).mul h

theorem Bd.const {A a c : Rat} (h : Bd A a) (hc : 0 ≤ c) : Bd (A * c) (a * c) := h.mul ⟨by grind, by grind⟩

def addR (a b : Rat) : Rat := a ^ 1 * b ^ 6 * (1 / 720) + a ^ 2 * b ^ 5 * (1 / 240) + a ^ 2 * b ^ 6 * (1 / 1440) + a ^ 3 * b ^ 4 * (1 / 144) + a ^ 3 * b ^ 5 * (1 / 720) + a ^ 3 * b ^ 6 * (1 / 4320) + a ^ 4 * b ^ 3 * (1 / 144) + a ^ 4 * b ^ 4 * (1 / 576) + a ^ 4 * b ^ 5 * (1 / 2880) + a ^ 4 * b ^ 6 * (1 / 17280) + a ^ 5 * b ^ 2 * (1 / 240) + a ^ 5 * b ^ 3 * (1 / 720) + a ^ 5 * b ^ 4 * (1 / 2880) + a ^ 5 * b ^ 5 * (1 / 14400) + a ^ 5 * b ^ 6 * (1 / 86400) + a ^ 6 * b ^ 1 * (1 / 720) + a ^ 6 * b ^ 2 * (1 / 1440) + a ^ 6 * b ^ 3 * (1 / 4320) + a ^ 6 * b ^ 4 * (1 / 17280) + a ^ 6 * b ^ 5 * (1 / 86400) + a ^ 6 * b ^ 6 * (1 / 518400)
def addE (r : Rat) : Rat := r ^ 1 * r ^ 6 * (1 / 720) + r ^ 2 * r ^ 5 * (1 / 240) + r ^ 2 * r ^ 6 * (1 / 1440) + r ^ 3 * r ^ 4 * (1 / 144) + r ^ 3 * r ^ 5 * (1 / 720) + r ^ 3 * r ^ 6 * (1 / 4320) + r ^ 4 * r ^ 3 * (1 / 144) + r ^ 4 * r ^ 4 * (1 / 576) + r ^ 4 * r ^ 5 * (1 / 2880) + r ^ 4 * r ^ 6 * (1 / 17280) + r ^ 5 * r ^ 2 * (1 / 240) + r ^ 5 * r ^ 3 * (1 / 720) + r ^ 5 * r ^ 4 * (1 / 2880) + r ^ 5 * r ^ 5 * (1 / 14400) + r ^ 5 * r ^ 6 * (1 / 86400) + r ^ 6 * r ^ 1 * (1 / 720) + r ^ 6 * r ^ 2 * (1 / 1440) + r ^ 6 * r ^ 3 * (1 / 4320) + r ^ 6 * r ^ 4 * (1 / 17280) + r ^ 6 * r ^ 5 * (1 / 86400) + r ^ 6 * r ^ 6 * (1 / 518400)

theorem T6_add (a b : Rat) : T6 a * T6 b = T6 (a + b) + addR a b := by
 unfold T6 addR
 grind

theorem addR_bd {r a b : Rat} (ha : Bd r a) (hb : Bd r b) : Bd (addE r) (addR a b) := by
 unfold addR addE
 exact ((((((((((((((((((((((ha.pow 1).mul (hb.pow 6)).const (c := 1 / 720) (by grind)).add (((ha.pow 2).mul (hb.pow 5)).const (c := 1 / 240) (by grind))).add (((ha.pow 2).mul (hb.pow 6)).const (c := 1 / 1440) (by grind))).add (((ha.pow 3).mul (hb.pow 4)).const (c := 1 / 144) (by grind))).add (((ha.pow 3).mul (hb.pow 5)).const (c := 1 / 720) (by grind))).add (((ha.pow 3).mul (hb.pow 6)).const (c := 1 / 4320) (by grind))).add (((ha.pow 4).mul (hb.pow 3)).const (c := 1 / 144) (by grind))).add (((ha.pow 4).mul (hb.pow 4)).const (c := 1 / 576) (by grind))).add (((ha.pow 4).mul (hb.pow 5)).const (c := 1 / 2880) (by grind))).add (((ha.pow 4).mul (hb.pow 6)).const (c := 1 / 17280) (by grind))).add (((ha.pow 5).mul (hb.pow 2)).const (c := 1 / 240) (by grind))).add (((ha.pow 5).mul (hb.pow 3)).const (c := 1 / 720) (by grind))).add (((ha.pow 5).mul (hb.pow 4)).const (c := 1 / 2880) (by grind))).add (((ha.pow 5).mul (hb.pow 5)).const (c := 1 / 14400) (by grind))).add (((ha.pow 5).mul (hb.pow 6)).const (c := 1 / 86400) (by grind))).add (((ha.pow 6).mul (hb.pow 1)).const (c := 1 / 720) (by grind))).add (((ha.pow 6).mul (hb.pow 2)).const (c := 1 / 1440) (by grind))).add (((ha.pow 6).mul (hb.pow 3)).const (c := 1 / 4320) (by grind))).add (((ha.pow 6).mul (hb.pow 4)).const (c := 1 / 17280) (by grind))).add (((ha.pow 6).mul (hb.pow 5)).const (c := 1 / 86400) (by grind))).add (((ha.pow 6).mul (hb.pow 6)).const (c := 1 / 518400) (by grind))

def ell (q : Rat) : Rat := 2 * q + 2 * q ^ 3 / 3 + 2 * q ^ 5 / 5

def ellR (q : Rat) : Rat := q ^ 7 * (-(14 / 45)) + q ^ 8 * (-(4 / 15)) + q ^ 9 * (-(112 / 405)) + q ^ 10 * (-(362 / 2025)) + q ^ 11 * (-(178 / 675)) + q ^ 12 * (-(46 / 405)) + q ^ 13 * (-(286 / 1215)) + q ^ 14 * (-(16 / 405)) + q ^ 15 * (-(14288 / 91125)) + q ^ 16 * (-(548 / 91125)) + q ^ 17 * (-(1672 / 18225)) + q ^ 18 * (112 / 32805) + q ^ 19 * (-(37252 / 820125)) + q ^ 20 * (2486 / 455625) + q ^ 21 * (-(8714 / 455625)) + q ^ 22 * (92 / 30375) + q ^ 23 * (-(1036 / 151875)) + q ^ 24 * (188 / 151875) + q ^ 25 * (-(7076 / 3796875)) + q ^ 26 * (136 / 421875) + q ^ 27 * (-(172 / 421875)) + q ^ 28 * (8 / 140625) + q ^ 29 * (-(8 / 140625)) + q ^ 30 * (4 / 703125) + q ^ 31 * (-(4 / 703125))

def ellE (r : Rat) : Rat := r ^ 7 * (14 / 45) + r ^ 8 * (4 / 15) + r ^ 9 * (112 / 405) + r ^ 10 * (362 / 2025) + r ^ 11 * (178 / 675) + r ^ 12 * (46 / 405) + r ^ 13 * (286 / 1215) + r ^ 14 * (16 / 405) + r ^ 15 * (14288 / 91125) + r ^ 16 * (548 / 91125) + r ^ 17 * (1672 / 18225) + r ^ 18 * (112 / 32805) + r ^ 19 * (37252 / 820125) + r ^ 20 * (2486 / 455625) + r ^ 21 * (8714 / 455625) + r ^ 22 * (92 / 30375) + r ^ 23 * (1036 / 151875) + r ^ 24 * (188 / 151875) + r ^ 25 * (7076 / 3796875) + r ^ 26 * (136 / 421875) + r ^ 27 * (172 / 421875) + r ^ 28 * (8 / 140625) + r ^ 29 * (8 / 140625) + r ^ 30 * (4 / 703125) + r ^ 31 * (4 / 703125)

theorem T6_ell (q : Rat) : T6 (ell q) * (1 - q) = 1 + q + ellR q := by
 unfold T6 ell ellR
 grind

theorem Bd.coef {A a c d : Rat} (h : Bd A a) (h1 : -d ≤ c) (h2 : c ≤ d) : Bd (A * d) (a * c) := h.mul ⟨h1, h2⟩

theorem ellR_bd {r q : Rat} (hq : Bd r q) : Bd (ellE r) (ellR q) := by
 unfold ellR ellE
 exact (((((((((((((((((((((((((hq.pow 7).coef (c := (-(14 / 45))) (d := (14 / 45)) (by grind) (by grind)).add ((hq.pow 8).coef (c := (-(4 / 15))) (d := (4 / 15)) (by grind) (by grind))).add ((hq.pow 9).coef (c := (-(112 / 405))) (d := (112 / 405)) (by grind) (by grind))).add ((hq.pow 10).coef (c := (-(362 / 2025))) (d := (362 / 2025)) (by grind) (by grind))).add ((hq.pow 11).coef (c := (-(178 / 675))) (d := (178 / 675)) (by grind) (by grind))).add ((hq.pow 12).coef (c := (-(46 / 405))) (d := (46 / 405)) (by grind) (by grind))).add ((hq.pow 13).coef (c := (-(286 / 1215))) (d := (286 / 1215)) (by grind) (by grind))).add ((hq.pow 14).coef (c := (-(16 / 405))) (d := (16 / 405)) (by grind) (by grind))).add ((hq.pow 15).coef (c := (-(14288 / 91125))) (d := (14288 / 91125)) (by grind) (by grind))).add ((hq.pow 16).coef (c := (-(548 / 91125))) (d := (548 / 91125)) (by grind) (by grind))).add ((hq.pow 17).coef (c := (-(1672 / 18225))) (d := (1672 / 18225)) (by grind) (by grind))).add ((hq.pow 18).coef (c := (112 / 32805)) (d := (112 / 32805)) (by grind) (by grind))).add ((hq.pow 19).coef (c := (-(37252 / 820125))) (d := (37252 / 820125)) (by grind) (by grind))).add ((hq.pow 20).coef (c := (2486 / 455625)) (d := (2486 / 455625)) (by grind) (by grind))).add ((hq.pow 21).coef (c := (-(8714 / 455625))) (d := (8714 / 455625)) (by grind) (by grind))).add ((hq.pow 22).coef (c := (92 / 30375)) (d := (92 / 30375)) (by grind) (by grind))).add ((hq.pow 23).coef (c := (-(1036 / 151875))) (d := (1036 / 151875)) (by grind) (by grind))).add ((hq.pow 24).coef (c := (188 / 151875)) (d := (188 / 151875)) (by grind) (by grind))).add ((hq.pow 25).coef (c := (-(7076 / 3796875))) (d := (7076 / 3796875)) (by grind) (by grind))).add ((hq.pow 26).coef (c := (136 / 421875)) (d := (136 / 421875)) (by grind) (by grind))).add ((hq.pow 27).coef (c := (-(172 / 421875))) (d := (172 / 421875)) (by grind) (by grind))).add ((hq.pow 28).coef (c := (8 / 140625)) (d := (8 / 140625)) (by grind) (by grind))).add ((hq.pow 29).coef (c := (-(8 / 140625))) (d := (8 / 140625)) (by grind) (by grind))).add ((hq.pow 30).coef (c := (4 / 703125)) (d := (4 / 703125)) (by grind) (by grind))).add ((hq.pow 31).coef (c := (-(4 / 703125))) (d := (4 / 703125)) (by grind) (by grind))

end Go.Proofs


/-
 exp (256 t) as T6 t squared eight times: sums, the odd series, the logarithm of 2.
-/
namespace Go.Proofs
open Go.Ide Go.IntWalk

def Ex (t : Rat) : Rat := sqn 8 (T6 t)

theorem n2 : ((2 : Nat) : Rat) = 2 := rfl

theorem T6_pos {t : Rat} (h : Bd (1 / 8) t) : 0 ≤ T6 t := by have := (T6_bd h).2; grind
theorem Ex_nn {t : Rat} (h : Bd (1 / 8) t) : 0 ≤ Ex t := sqn_nn 8 (T6_pos h)

theorem addE8 : addE (1 / 8) ≤ 1 / 80000000 := by unfold addE; grind
theorem addE21 : addE (21 / 100) ≤ 1 / 2000000 := by unfold addE; grind
theorem ellE21 : ellE (21 / 100) ≤ 7 / 1000000 := by unfold ellE; grind

theorem T6_sum {a b : Rat} (ha : Bd (1 / 8) a) (hb : Bd (1 / 8) b) (hab : Bd (1 / 8) (a + b)) : Nq 2 (T6 a * T6 b) (T6 (a + b)) := by
 have h1 := addR_bd ha hb
 have h2 := addE8
 have h3 := T6_add a b
 have p1 := (T6_bd ha).2
 have p2 := (T6_bd hb).2
 have p3 := (T6_bd hab).2
 have p4 := Rat.mul_le_mul_of_nonneg_left p2 (show 0 ≤ T6 a by grind)
 obtain ⟨x1, x2⟩ := h1
 refine Nq.of_apx (e := 1 / 80000000) ⟨by grind, by grind⟩ (by rw [n2]; grind) (by rw [n2]; grind) (by grind) (by grind)

theorem Ex_sum {a b : Rat} (ha : Bd (1 / 8) a) (hb : Bd (1 / 8) b) (hab : Bd (1 / 8) (a + b)) : Nq 512 (Ex a * Ex b) (Ex (a + b)) := by
 have h := sqn_near 8 (T6_sum ha hb hab) (Rat.mul_nonneg (T6_pos ha) (T6_pos hb)) (T6_pos hab)
 rw [sqn_mul] at h
 exact h

theorem Ex_lip {a b d : Rat} {k : Nat} (ha : Bd (1 / 8) a) (hb : Bd (1 / 8) b) (h : Apx d a b) (d0 : 0 ≤ d) (hk : 375000000 * d ≤ (k : Rat)) : Nq (256 * k) (Ex a) (Ex b) := by
 have h1 := T6_lip ha hb h d0
 have p1 := (T6_bd ha).2
 have p2 := (T6_bd hb).2
 have hk0 : (0 : Rat) ≤ (k : Rat) := natLe (Nat.zero_le k)
 have q1 := Rat.mul_le_mul_of_nonneg_left p1 hk0
 have q2 := Rat.mul_le_mul_of_nonneg_left p2 hk0
 have n := Nq.of_apx (k := k) h1 (by grind) (by grind) (by grind) (by grind)
 exact sqn_near 8 n (T6_pos ha) (T6_pos hb)

theorem sqn_swap (n : Nat) (x : Rat) : sqn (n + 1) x = sqn n (x * x) := by
 rw [sqn_mul]; rfl

theorem Bd.half {r t : Rat} (h : Bd r t) : Bd r (t / 2) := by
 obtain ⟨h1, h2⟩ := h
 constructor <;> grind

theorem T6_half {t : Rat} (ht : Bd (1 / 8) t) : Nq 2 (T6 (t / 2) * T6 (t / 2)) (T6 t) := by
 have e : t / 2 + t / 2 = t := by grind
 have := T6_sum ht.half ht.half (by rw [e]; exact ht)
 rw [e] at this
 exact this

theorem halves {t : Rat} (ht : Bd (1 / 8) t) (n : Nat) : Nq (2 ^ n * 2) (sqn (n + 1) (T6 (t / 2))) (sqn n (T6 t)) := by
 rw [sqn_swap]
 exact sqn_near n (T6_half ht) (Rat.mul_nonneg (T6_pos ht.half) (T6_pos ht.half)) (T6_pos ht)

theorem Ex_small {l : Rat} (hl : Bd (42 / 100) l) : Nq 700 (Ex (l / 256)) (T6 l) := by
 have b2 : Bd (1 / 8) (l / 2 / 2) := by obtain ⟨h1, h2⟩ := hl; constructor <;> grind
 have b3 := b2.half
 have b4 := b3.half
 have b5 := b4.half
 have b6 := b5.half
 have b7 := b6.half
 have c7 := halves b7 7
 have c6 := halves b6 6
 have c5 := halves b5 5
 have c4 := halves b4 4
 have c3 := halves b3 3
 have c2 := halves b2 2
 have c := ((((c7.trans c6).trans c5).trans c4).trans c3).trans c2
 have e : l / 2 / 2 / 2 / 2 / 2 / 2 / 2 / 2 = l / 256 := by grind
 rw [e] at c
 -- the two upper levels
 have r1 := addR_bd (r := 1 / 8) b2 b2
 have a1 := T6_add (l / 2 / 2) (l / 2 / 2)
 have e1 : l / 2 / 2 + l / 2 / 2 = l / 2 := by grind
 rw [e1] at a1
 have g1 := addE8
 have p2 := (T6_bd b2).2
 have p22 := Rat.mul_le_mul_of_nonneg_left p2 (show 0 ≤ T6 (l / 2 / 2) by grind)
 obtain ⟨x1, x2⟩ := r1
 have q1 : 16 / 25 - 1 / 80000000 ≤ T6 (l / 2) := by grind
 have n1 : Nq 2 (T6 (l / 2 / 2) * T6 (l / 2 / 2)) (T6 (l / 2)) := Nq.of_apx (e := 1 / 80000000) ⟨by grind, by grind⟩ (by rw [n2]; grind) (by rw [n2]; grind) (by grind) (by grind)
 have bh : Bd (21 / 100) (l / 2) := by obtain ⟨h1, h2⟩ := hl; constructor <;> grind
 have r0 := addR_bd bh bh
 have a0 := T6_add (l / 2) (l / 2)
 have e0 : l / 2 + l / 2 = l := by grind
 rw [e0] at a0
 have g0 := addE21
 have q11 := Rat.mul_le_mul_of_nonneg_left q1 (show 0 ≤ T6 (l / 2) by grind)
 obtain ⟨x3, x4⟩ := r0
 have c180 : ((180 : Nat) : Rat) = 180 := rfl
 have n0 : Nq 180 (T6 (l / 2) * T6 (l / 2)) (T6 l) := Nq.of_apx (e := 1 / 2000000) ⟨by grind, by grind⟩ (by rw [c180]; grind) (by rw [c180]; grind) (by grind) (by grind)
 have s2 : sqn 2 (T6 (l / 2 / 2)) = (T6 (l / 2 / 2) * T6 (l / 2 / 2)) * (T6 (l / 2 / 2) * T6 (l / 2 / 2)) := rfl
 rw [s2] at c
 have t2 : 0 ≤ T6 (l / 2 / 2) * T6 (l / 2 / 2) := by grind
 have t1 : 0 ≤ T6 (l / 2) := by grind
 have n11 := n1.mul n1 t2 t1 t2 t1
 have all := (c.trans n11).trans n0
 have l0 : 0 ≤ T6 l := by grind
 have e9 : 0 ≤ sqn (7 + 1) (T6 (l / 256)) := sqn_nn 8 (T6_pos (by obtain ⟨h1, h2⟩ := hl; constructor <;> grind))
 exact all.mono e9 l0 (by decide)

theorem ell_bd {q : Rat} (hq : Bd (201 / 1000) q) : Bd (42 / 100) (ell q) := by
 have h3 := (hq.pow 3).const (c := 2 / 3) (by grind)
 have h5 := (hq.pow 5).const (c := 2 / 5) (by grind)
 obtain ⟨a1, a2⟩ := hq
 obtain ⟨b1, b2⟩ := h3
 obtain ⟨c1, c2⟩ := h5
 unfold ell
 constructor <;> grind

theorem Ex_ell {q : Rat} (hq : Bd (201 / 1000) q) : Nq 1700 (Ex (ell q / 256) * (1 - q)) (1 + q) := by
 have h1 := Ex_small (ell_bd hq)
 have h2 := T6_ell q
 have hq' : Bd (21 / 100) q := hq.mono (by grind)
 have h3 := ellR_bd hq'
 have h4 := ellE21
 obtain ⟨x1, x2⟩ := h3
 obtain ⟨y1, y2⟩ := hq
 have c900 : ((1000 : Nat) : Rat) = 1000 := rfl
 have n0 : Nq 1000 (T6 (ell q) * (1 - q)) (1 + q) := Nq.of_apx (e := 7 / 1000000) ⟨by grind, by grind⟩ (by rw [c900]; grind) (by rw [c900]; grind) (by grind) (by grind)
 have be : Bd (1 / 8) (ell q / 256) := by
  have := ell_bd (q := q) ⟨y1, y2⟩
  obtain ⟨z1, z2⟩ := this
  constructor <;> grind
 have tl : 0 ≤ T6 (ell q) := by
  have p : 0 ≤ T6 (ell q) * (1 - q) := by grind
  refine Rat.le_of_mul_le_mul_right (c := 1 - q) ?_ (by grind)
  grind
 have m := h1.mul (Nq.refl (x := 1 - q) (by grind)) (Ex_nn be) tl (by grind) (by grind)
 exact m.trans n0

def ln2 : Rat := 6243314768165359 / 9007199254740992

theorem Ex_ln2 : Nq 1 (Ex (-ln2 / 256)) (1 / 2) := by
 have h1 : Ex (-ln2 / 256) ≤ 1 / 2 * (1 + 1 / 100000000) := by decide +kernel
 have h2 : 1 / 2 * (1 - 1 / 200000000) ≤ Ex (-ln2 / 256) := by decide +kernel
 have r : rp 1 = 100000001 / 100000000 := by
  show 1 * rho = _
  rw [rho_eq]; grind
 unfold Nq
 rw [r]
 constructor <;> grind

end Go.Proofs


/-
 The logarithm in floats of 64 bits: halving and doubling, the odd series.
-/
namespace Go.Proofs
open Go.Ide Go.IntWalk

def p2 : Nat → Rat
 | 0 => 1
 | k + 1 => 2 * p2 k

theorem p2_ge : ∀ k, 1 ≤ p2 k
 | 0 => by unfold p2; grind
 | k + 1 => by have := p2_ge k; unfold p2; grind

theorem p2_big {k : Nat} (h : 7 ≤ k) : 128 ≤ p2 k := by
 obtain ⟨d, rfl⟩ := Nat.exists_eq_add_of_le h
 induction d with
 | zero => show 128 ≤ p2 7; simp only [p2]; grind
 | succ d ih => have := ih (by omega); show 128 ≤ 2 * p2 (7 + d); grind

theorem p2_le {k : Nat} (h : k ≤ 7) : p2 k ≤ 128 := by
 have hk : k = 0 ∨ k = 1 ∨ k = 2 ∨ k = 3 ∨ k = 4 ∨ k = 5 ∨ k = 6 ∨ k = 7 := by omega
 rcases hk with rfl | rfl | rfl | rfl | rfl | rfl | rfl | rfl <;> simp only [p2] <;> grind

theorem w2 : FD 4611686018427387904 ∧ wD 4611686018427387904 = 2 := ⟨litFD (by omega), by rw [litD (c := 2) (d := 1) (by omega) (by omega) (by decide +kernel), show ((1 : Nat) : Rat) = 1 from rfl, show ((2 : Nat) : Rat) = 2 from rfl]; grind⟩
theorem w34 : FD 4604930618986332160 ∧ wD 4604930618986332160 = 3 / 4 := ⟨litFD (by omega), by rw [litD (c := 3) (d := 4) (by omega) (by omega) (by decide +kernel), show ((4 : Nat) : Rat) = 4 from rfl, show ((3 : Nat) : Rat) = 3 from rfl]⟩
theorem w0 : FD 0 ∧ wD 0 = 0 := ⟨litFD (by omega), by rw [litD (c := 0) (d := 1) (by omega) (by omega) (by decide +kernel), show ((1 : Nat) : Rat) = 1 from rfl, show ((0 : Nat) : Rat) = 0 from rfl]; grind⟩
theorem wln : FD 4604418534313441775 ∧ wD 4604418534313441775 = ln2 := ⟨litFD (by omega), by rw [litD (c := 6243314768165359) (d := 9007199254740992) (by omega) (by omega) (by decide +kernel)]; rfl⟩

theorem logDouble {m0 : Nat} (h0 : FD m0) (l0 : 1 / 100 ≤ wD m0) (l1 : wD m0 ≤ 3 / 2) :
  ∃ r, rounds impl_naturalLog_B2 (m0, (0 : Nat)) = some r ∧ ∃ k : Nat, k ≤ 7 ∧ FD r.1 ∧ FD r.2 ∧ Apx ((k : Rat) / 100000000000000) (wD r.2) (-(k : Rat)) ∧ Apx ((p2 k - 1) / 1000000000000000) (wD r.1) (wD m0 * p2 k) ∧ 3 / 4 ≤ wD r.1 ∧ wD r.1 ≤ 3 / 2 + 1 / 1000000000000000 := by
 have := rounds_inv (f := impl_naturalLog_B2) (fun n s => ∃ k : Nat, n = 7 - k ∧ k ≤ 7 ∧ FD s.1 ∧ FD s.2 ∧ Apx ((k : Rat) / 100000000000000) (wD s.2) (-(k : Rat)) ∧ Apx ((p2 k - 1) / 1000000000000000) (wD s.1) (wD m0 * p2 k) ∧ 1 / 200 ≤ wD s.1 ∧ wD s.1 ≤ 3 / 2 + 1 / 1000000000000000)
  (fun r => ∃ k : Nat, k ≤ 7 ∧ FD r.1 ∧ FD r.2 ∧ Apx ((k : Rat) / 100000000000000) (wD r.2) (-(k : Rat)) ∧ Apx ((p2 k - 1) / 1000000000000000) (wD r.1) (wD m0 * p2 k) ∧ 3 / 4 ≤ wD r.1 ∧ wD r.1 ≤ 3 / 2 + 1 / 1000000000000000) (by
  rintro n ⟨m, e⟩ ⟨k, rfl, hk, hm, he, ha, hb, hp, hq⟩
  simp only at hm he ha hb hp hq
  unfold impl_naturalLog_B2
  simp only
  rw [flt_w hm w34.1, w34.2]
  by_cases c : wD m < 3 / 4
  ·left
   rw [decide_eq_true c]
   have hk7 : k < 7 := by
    apply Nat.lt_of_not_le
    intro h7
    have g := p2_big h7
    have g2 := p2_le hk
    obtain ⟨x1, x2⟩ := hb
    have := Rat.mul_le_mul_of_nonneg_left g (show 0 ≤ wD m0 by grind)
    grind
   obtain ⟨u1, u2, u3⟩ := mulD (e := 2) hm w2.1 (by grind) (by grind) (by rw [w2.2]; grind) (by rw [w2.2]; grind)
   rw [w2.2] at u2 u3
   have hkc := natLe hk
   rw [show ((7 : Nat) : Rat) = 7 from rfl] at hkc
   have hk0 : (0 : Rat) ≤ (k : Rat) := natLe (Nat.zero_le k)
   obtain ⟨a1, a2⟩ := ha
   obtain ⟨v1, v2, v3⟩ := subD (e := 10) he one_F (by grind) (by grind) (by rw [one_w]; grind) (by rw [one_w]; grind)
   rw [one_w] at v2 v3
   have gg := p2_ge k
   obtain ⟨x1, x2⟩ := hb
   refine ⟨7 - (k + 1), _, by omega, rfl, k + 1, rfl, by omega, u1, v1, ?_, ?_, by grind, by grind⟩
   ·rw [Rat.natCast_add, show ((1 : Nat) : Rat) = 1 from rfl]
    constructor <;> grind
   ·simp only [p2]
    constructor <;> grind
  ·right
   rw [decide_eq_false c]
   exact ⟨_, rfl, k, hk, hm, he, ha, hb, by grind, hq⟩) 7 (m0, 0) ⟨0, rfl, by omega, h0, w0.1, by
    show Apx _ (wD 0) _
    rw [w0.2, show ((0 : Nat) : Rat) = 0 from rfl]; constructor <;> grind, by
    show Apx _ (wD m0) _
    simp only [p2]; constructor <;> grind, by show 1 / 200 ≤ wD m0; grind, by show wD m0 ≤ _; grind⟩
 exact this

theorem logStep {q7 s K K' : Nat} {c h e : Rat} (hq : FD q7) (hs : FD s) (hK : FD K) (q1 : Bd (201 / 1000) (wD q7)) (s1 : Bd 2 (wD s)) (hc : wD K = c) (c1 : 1 ≤ c) (hK' : fop .sub .f64 K 4611686018427387904 = K') (ha : Apx e (wD s) h) (e0 : 0 ≤ e) :
  ∃ r, impl_naturalLog_B1 q7 (s, K) = some (.inl (r, K')) ∧ FD r ∧ Bd 2 (wD r) ∧ Apx (e * (40401 / 1000000) + 1 / 10000000000000) (wD r) (1 / c + wD q7 * wD q7 * h) := by
 have ci : ∃ i, i * c = 1 ∧ 0 ≤ i ∧ i ≤ 1 := by
  refine ⟨1 / c, by grind, ?_, ?_⟩
  ·refine Rat.le_of_mul_le_mul_right (c := c) ?_ (by grind)
   have : 1 / c * c = 1 := by grind
   rw [this]; grind
  ·refine Rat.le_of_mul_le_mul_right (c := c) ?_ (by grind)
   have : 1 / c * c = 1 := by grind
   rw [this]; grind
 obtain ⟨i, i1, i2, i3⟩ := ci
 have e1 : 1 / c = i := by grind
 obtain ⟨a1, a2, a3⟩ := quoD (e := 1) (q := i) one_F hK (by rw [hc]; grind) (by rw [hc, one_w]; grind) (by grind) (by grind) (by grind) (by grind)
 have bq := q1.mul q1
 obtain ⟨bq1, bq2⟩ := bq
 obtain ⟨b1, b2, b3⟩ := mulD (e := 1 / 16) hq hq (by grind) (by grind) (by grind) (by grind)
 have bu : Bd (50000 / 1000000) (wD (fop .mul .f64 q7 q7)) := by constructor <;> grind
 have bs := bu.mul s1
 obtain ⟨bs1, bs2⟩ := bs
 obtain ⟨d1, d2, d3⟩ := mulD (e := 1 / 4) b1 hs (by grind) (by grind) (by grind) (by grind)
 have dd := Bd.mul (A := 1 / 16 / 4503599627370496) (a := wD (fop .mul .f64 q7 q7) - wD q7 * wD q7) ⟨by grind, by grind⟩ s1
 obtain ⟨dd1, dd2⟩ := dd
 obtain ⟨f1, f2, f3⟩ := addD (e := 2) a1 d1 (by grind) (by grind) (by grind) (by grind)
 have hh := (q1.mul q1).mul ha.bd
 obtain ⟨hh1, hh2⟩ := hh
 refine ⟨_, ?_, f1, ⟨by grind, by grind⟩, ?_⟩
 ·unfold impl_naturalLog_B1
  simp only
  rw [fge_w hK one_F, one_w, decide_eq_true (show 1 ≤ wD K by grind), hK']
  rfl
 ·rw [e1]
  constructor <;> grind

end Go.Proofs


/-
 The logarithm of floats. Printed by logser.py.
-/
namespace Go.Proofs
open Go.Ide Go.IntWalk

theorem wo25 : FD 4627730092099895296 ∧ wD 4627730092099895296 = 25 := ⟨litFD (by omega), by rw [litD (c := 25) (d := 1) (by omega) (by omega) (by decide +kernel), show ((1 : Nat) : Rat) = 1 from rfl, show ((25 : Nat) : Rat) = 25 from rfl]; grind⟩
theorem wo23 : FD 4627167142146473984 ∧ wD 4627167142146473984 = 23 := ⟨litFD (by omega), by rw [litD (c := 23) (d := 1) (by omega) (by omega) (by decide +kernel), show ((1 : Nat) : Rat) = 1 from rfl, show ((23 : Nat) : Rat) = 23 from rfl]; grind⟩
theorem wo21 : FD 4626604192193052672 ∧ wD 4626604192193052672 = 21 := ⟨litFD (by omega), by rw [litD (c := 21) (d := 1) (by omega) (by omega) (by decide +kernel), show ((1 : Nat) : Rat) = 1 from rfl, show ((21 : Nat) : Rat) = 21 from rfl]; grind⟩
theorem wo19 : FD 4626041242239631360 ∧ wD 4626041242239631360 = 19 := ⟨litFD (by omega), by rw [litD (c := 19) (d := 1) (by omega) (by omega) (by decide +kernel), show ((1 : Nat) : Rat) = 1 from rfl, show ((19 : Nat) : Rat) = 19 from rfl]; grind⟩
theorem wo17 : FD 4625478292286210048 ∧ wD 4625478292286210048 = 17 := ⟨litFD (by omega), by rw [litD (c := 17) (d := 1) (by omega) (by omega) (by decide +kernel), show ((1 : Nat) : Rat) = 1 from rfl, show ((17 : Nat) : Rat) = 17 from rfl]; grind⟩
theorem wo15 : FD 4624633867356078080 ∧ wD 4624633867356078080 = 15 := ⟨litFD (by omega), by rw [litD (c := 15) (d := 1) (by omega) (by omega) (by decide +kernel), show ((1 : Nat) : Rat) = 1 from rfl, show ((15 : Nat) : Rat) = 15 from rfl]; grind⟩
theorem wo13 : FD 4623507967449235456 ∧ wD 4623507967449235456 = 13 := ⟨litFD (by omega), by rw [litD (c := 13) (d := 1) (by omega) (by omega) (by decide +kernel), show ((1 : Nat) : Rat) = 1 from rfl, show ((13 : Nat) : Rat) = 13 from rfl]; grind⟩
theorem wo11 : FD 4622382067542392832 ∧ wD 4622382067542392832 = 11 := ⟨litFD (by omega), by rw [litD (c := 11) (d := 1) (by omega) (by omega) (by decide +kernel), show ((1 : Nat) : Rat) = 1 from rfl, show ((11 : Nat) : Rat) = 11 from rfl]; grind⟩
theorem wo9 : FD 4621256167635550208 ∧ wD 4621256167635550208 = 9 := ⟨litFD (by omega), by rw [litD (c := 9) (d := 1) (by omega) (by omega) (by decide +kernel), show ((1 : Nat) : Rat) = 1 from rfl, show ((9 : Nat) : Rat) = 9 from rfl]; grind⟩
theorem wo7 : FD 4619567317775286272 ∧ wD 4619567317775286272 = 7 := ⟨litFD (by omega), by rw [litD (c := 7) (d := 1) (by omega) (by omega) (by decide +kernel), show ((1 : Nat) : Rat) = 1 from rfl, show ((7 : Nat) : Rat) = 7 from rfl]; grind⟩
theorem wo5 : FD 4617315517961601024 ∧ wD 4617315517961601024 = 5 := ⟨litFD (by omega), by rw [litD (c := 5) (d := 1) (by omega) (by omega) (by decide +kernel), show ((1 : Nat) : Rat) = 1 from rfl, show ((5 : Nat) : Rat) = 5 from rfl]; grind⟩
theorem wo3 : FD 4613937818241073152 ∧ wD 4613937818241073152 = 3 := ⟨litFD (by omega), by rw [litD (c := 3) (d := 1) (by omega) (by omega) (by decide +kernel), show ((1 : Nat) : Rat) = 1 from rfl, show ((3 : Nat) : Rat) = 3 from rfl]; grind⟩
theorem wo1 : FD 4607182418800017408 ∧ wD 4607182418800017408 = 1 := ⟨one_F, one_w⟩
theorem wom : FD 13830554455654793216 ∧ wD 13830554455654793216 = -1 := by
 have := negLit (r := 4607182418800017408) (by omega)
 rw [one_w] at this
 exact this

theorem logSeries {q7 : Nat} (hq : FD q7) (q1 : Bd (201 / 1000) (wD q7)) : ∃ r, rounds (impl_naturalLog_B1 q7) ((0 : Nat), (4627730092099895296 : Nat)) = some r ∧ FD r ∧ Bd 2 (wD r) ∧ Apx (1 / 90000) (wD r) (1 + wD q7 * wD q7 * (1 / 3 + wD q7 * wD q7 * (1 / 5))) := by
 have ap0 : ∀ x : Rat, Apx 0 x x := fun x => ⟨by grind, by grind⟩
 have b27 : Bd 2 (wD 0) := by rw [w0.2]; exact ⟨by grind, by grind⟩
 have f27 := w0.1
 obtain ⟨p25, r25, f25, b25, a25⟩ := logStep (K' := 4627167142146473984) hq f27 wo25.1 q1 b27 wo25.2 (by grind) (by decide +kernel) (ap0 _) (by grind)
 obtain ⟨p23, r23, f23, b23, a23⟩ := logStep (K' := 4626604192193052672) hq f25 wo23.1 q1 b25 wo23.2 (by grind) (by decide +kernel) (ap0 _) (by grind)
 obtain ⟨p21, r21, f21, b21, a21⟩ := logStep (K' := 4626041242239631360) hq f23 wo21.1 q1 b23 wo21.2 (by grind) (by decide +kernel) (ap0 _) (by grind)
 obtain ⟨p19, r19, f19, b19, a19⟩ := logStep (K' := 4625478292286210048) hq f21 wo19.1 q1 b21 wo19.2 (by grind) (by decide +kernel) (ap0 _) (by grind)
 obtain ⟨p17, r17, f17, b17, a17⟩ := logStep (K' := 4624633867356078080) hq f19 wo17.1 q1 b19 wo17.2 (by grind) (by decide +kernel) (ap0 _) (by grind)
 obtain ⟨p15, r15, f15, b15, a15⟩ := logStep (K' := 4623507967449235456) hq f17 wo15.1 q1 b17 wo15.2 (by grind) (by decide +kernel) (ap0 _) (by grind)
 obtain ⟨p13, r13, f13, b13, a13⟩ := logStep (K' := 4622382067542392832) hq f15 wo13.1 q1 b15 wo13.2 (by grind) (by decide +kernel) (ap0 _) (by grind)
 obtain ⟨p11, r11, f11, b11, a11⟩ := logStep (K' := 4621256167635550208) hq f13 wo11.1 q1 b13 wo11.2 (by grind) (by decide +kernel) (ap0 _) (by grind)
 obtain ⟨p9, r9, f9, b9, a9⟩ := logStep (K' := 4619567317775286272) hq f11 wo9.1 q1 b11 wo9.2 (by grind) (by decide +kernel) (ap0 _) (by grind)
 have a9' : Bd (1 / 5) (wD p9) := by
  have b := (q1.mul q1).mul b11
  obtain ⟨x1, x2⟩ := a9
  obtain ⟨x3, x4⟩ := b
  constructor <;> grind
 obtain ⟨p7, r7, f7, b7, a7⟩ := logStep (K' := 4617315517961601024) hq f9 wo7.1 q1 b9 wo7.2 (by grind) (by decide +kernel) (ap0 _) (by grind)
 have a7' : Apx (16 / 100) (wD p7) 0 := by
  have b := (q1.mul q1).mul a9'
  obtain ⟨x1, x2⟩ := a7
  obtain ⟨x3, x4⟩ := b
  constructor <;> grind
 obtain ⟨p5, r5, f5, b5, a5⟩ := logStep (K' := 4613937818241073152) hq f7 wo5.1 q1 b7 wo5.2 (by grind) (by decide +kernel) a7' (by grind)
 obtain ⟨p3, r3, f3, b3, a3⟩ := logStep (K' := 4607182418800017408) hq f5 wo3.1 q1 b5 wo3.2 (by grind) (by decide +kernel) a5 (by grind)
 obtain ⟨p1, r1, f1, b1, a1⟩ := logStep (K' := 13830554455654793216) hq f3 wo1.1 q1 b3 wo1.2 (by grind) (by decide +kernel) a3 (by grind)
 refine ⟨p1, ?_, f1, b1, ?_⟩
 ·rw [rounds_eq, r25]
  simp only
  rw [rounds_eq, r23]
  simp only
  rw [rounds_eq, r21]
  simp only
  rw [rounds_eq, r19]
  simp only
  rw [rounds_eq, r17]
  simp only
  rw [rounds_eq, r15]
  simp only
  rw [rounds_eq, r13]
  simp only
  rw [rounds_eq, r11]
  simp only
  rw [rounds_eq, r9]
  simp only
  rw [rounds_eq, r7]
  simp only
  rw [rounds_eq, r5]
  simp only
  rw [rounds_eq, r3]
  simp only
  rw [rounds_eq, r1]
  simp only
  have hend : impl_naturalLog_B1 q7 (p1, 13830554455654793216) = some (.inr p1) := by
   unfold impl_naturalLog_B1
   simp only
   rw [fge_w wom.1 one_F, wom.2, one_w, decide_eq_false (by grind)]
   rfl
  rw [rounds_eq, hend]
 ·obtain ⟨x1, x2⟩ := a1
  constructor <;> grind

theorem logWide {m0 : Nat} (h0 : FD m0) (l0 : 1 / 100 ≤ wD m0) (l1 : wD m0 ≤ 149 / 100) :
  ∃ L, impl_naturalLog m0 = some L ∧ FD L ∧ ∃ (k : Nat) (q : Rat), k ≤ 7 ∧ Bd (201 / 1000) q ∧ Apx (1 / 210000) (wD L) (ell q - (k : Rat) * ln2) ∧ Apx (1 / 1000000000000) (1 + q) (wD m0 * p2 k * (1 - q)) := by
 obtain ⟨⟨m, e⟩, r2, k, hk, hm, he, ha, hb, hlo, hhi⟩ := logDouble h0 l0 (by grind)
 simp only at hm he ha hb hlo hhi
 have r3 : rounds impl_naturalLog_B3 (m0, (0 : Nat)) = some (m0, 0) := by
  have w15 : FD 4609434218613702656 ∧ wD 4609434218613702656 = 3 / 2 := ⟨litFD (by omega), by rw [litD (c := 3) (d := 2) (by omega) (by omega) (by decide +kernel), show ((2 : Nat) : Rat) = 2 from rfl, show ((3 : Nat) : Rat) = 3 from rfl]⟩
  have h : impl_naturalLog_B3 (m0, (0 : Nat)) = some (.inr (m0, 0)) := by
   unfold impl_naturalLog_B3
   simp only
   rw [fge_w h0 w15.1, w15.2, decide_eq_false (by grind)]
   rfl
  rw [rounds_eq, h]
 obtain ⟨s1, s2, s3⟩ := subD (e := 1) hm one_F (by grind) (by grind) (by rw [one_w]; grind) (by rw [one_w]; grind)
 obtain ⟨t1, t2, t3⟩ := addD (e := 3) hm one_F (by grind) (by grind) (by rw [one_w]; grind) (by rw [one_w]; grind)
 rw [one_w] at s2 s3 t2 t3
 generalize ha1 : fop .sub .f64 m 4607182418800017408 = A at *
 generalize ha2 : fop .add .f64 m 4607182418800017408 = B at *
 have hB : 0 < wD B := by grind
 have hqq : ∃ z, z * wD B = wD A := ⟨wD A / wD B, by grind⟩
 obtain ⟨z, hz⟩ := hqq
 have z1 : z ≤ 2005 / 10000 := by
  refine Rat.le_of_mul_le_mul_right (c := wD B) ?_ hB
  rw [hz]; grind
 have z2 : -(2005 / 10000) ≤ z := by
  refine Rat.le_of_mul_le_mul_right (c := wD B) ?_ hB
  rw [hz]; grind
 obtain ⟨u1, u2, u3⟩ := quoD (e := 1) (q := z) s1 t1 (by grind) hz (by grind) (by grind) (by grind) (by grind)
 generalize ha3 : fop .quo .f64 A B = Q at *
 have qb : Bd (201 / 1000) (wD Q) := ⟨by grind, by grind⟩
 obtain ⟨R, r1, fR, bR, aR⟩ := logSeries u1 qb
 have bqr := qb.mul bR
 obtain ⟨c1, c2⟩ := bqr
 obtain ⟨d1, d2, d3⟩ := mulD (e := 1) u1 fR (by grind) (by grind) (by grind) (by grind)
 generalize ha4 : fop .mul .f64 Q R = C at *
 obtain ⟨e1, e2, e3⟩ := mulD (e := 2) w2.1 d1 (by grind) (by grind) (by rw [w2.2]; grind) (by rw [w2.2]; grind)
 rw [w2.2] at e2 e3
 generalize ha5 : fop .mul .f64 4611686018427387904 C = D at *
 have hkc := natLe hk
 rw [show ((7 : Nat) : Rat) = 7 from rfl] at hkc
 have hk0 : (0 : Rat) ≤ (k : Rat) := natLe (Nat.zero_le k)
 obtain ⟨x1, x2⟩ := ha
 have bl : Bd 1 ln2 := by unfold ln2; constructor <;> grind
 have bel := Bd.mul (A := 8) (a := wD e) ⟨by grind, by grind⟩ bl
 obtain ⟨y1, y2⟩ := bel
 obtain ⟨f1, f2, f3⟩ := mulD (e := 8) he wln.1 (by grind) (by grind) (by rw [wln.2]; grind) (by rw [wln.2]; grind)
 rw [wln.2] at f2 f3
 generalize ha6 : fop .mul .f64 e 4604418534313441775 = E at *
 have bkl := Bd.mul (A := 7 / 100000000000000) (a := wD e - -(k : Rat)) ⟨by grind, by grind⟩ bl
 obtain ⟨y3, y4⟩ := bkl
 obtain ⟨g1, g2, g3⟩ := addD (e := 16) e1 f1 (by grind) (by grind) (by grind) (by grind)
 have bRR := qb.mul aR.bd
 obtain ⟨y5, y6⟩ := bRR
 refine ⟨_, ?_, g1, k, wD Q, hk, qb, ?_, ?_⟩
 ·unfold impl_naturalLog
  rw [r3]
  simp only [Option.bind_some, r2, ha1, ha2, ha3, r1, ha4, ha5, ha6]
 ·have ee : ell (wD Q) = 2 * (wD Q * (1 + wD Q * wD Q * (1 / 3 + wD Q * wD Q * (1 / 5)))) := by unfold ell; grind
  rw [ee]
  have ey : wD Q * (wD R - (1 + wD Q * wD Q * (1 / 3 + wD Q * wD Q * (1 / 5)))) = wD Q * wD R - wD Q * (1 + wD Q * wD Q * (1 / 3 + wD Q * wD Q * (1 / 5))) := by grind
  rw [ey] at y5 y6
  have ek : (wD e - -(k : Rat)) * ln2 = wD e * ln2 + (k : Rat) * ln2 := by grind
  rw [ek] at y3 y4
  generalize wD Q * (1 + wD Q * wD Q * (1 / 3 + wD Q * wD Q * (1 / 5))) = W at *
  generalize wD Q * wD R = V at *
  generalize wD e * ln2 = Y at *
  generalize (k : Rat) * ln2 = Z at *
  clear hz z1 z2 u2 u3 s2 s3 t2 t3 aR c1 c2 hb
  constructor <;> grind
 ·have zz := Bd.mul (A := 1 / 1125899906842624) (a := wD Q - z) (B := 3) (b := wD m + 1) ⟨by grind, by grind⟩ ⟨by grind, by grind⟩
  obtain ⟨z3, z4⟩ := zz
  have zb := Bd.mul (A := 3 / 4503599627370496) (a := wD B - (wD m + 1)) (B := 1) (b := z) ⟨by grind, by grind⟩ ⟨by grind, by grind⟩
  obtain ⟨z5, z6⟩ := zb
  have g := p2_le hk
  have hbd : Bd (128 / 1000000000000000) (wD m - wD m0 * p2 k) := by
   obtain ⟨b1, b2⟩ := hb
   constructor <;> grind
  have hm2 := hbd.mul (B := 2) (b := 1 - wD Q) ⟨by grind, by grind⟩
  obtain ⟨z7, z8⟩ := hm2
  constructor <;> grind

end Go.Proofs


/-
 LogNumber: the exponential of the logarithm is near the number.
-/
namespace Go.Proofs
open Go.Ide Go.IntWalk

theorem Nq.cancel {k : Nat} {x y c : Rat} (h : Nq k (x * c) (y * c)) (hc : 0 < c) : Nq k x y := by
 obtain ⟨h1, h2⟩ := h
 constructor
 ·refine Rat.le_of_mul_le_mul_right (c := c) ?_ hc
  grind
 ·refine Rat.le_of_mul_le_mul_right (c := c) ?_ hc
  grind

def bk (k : Nat) : Rat := -((k : Rat) * ln2) / 256

theorem bk_succ (k : Nat) : bk (k + 1) = bk k + bk 1 := by
 unfold bk
 rw [Rat.natCast_add, show ((1 : Nat) : Rat) = 1 from rfl]
 grind

theorem bk_bd {k : Nat} (h : k ≤ 7) : Bd (1 / 8) (bk k) := by
 have hkc := natLe h
 rw [show ((7 : Nat) : Rat) = 7 from rfl] at hkc
 have hk0 : (0 : Rat) ≤ (k : Rat) := natLe (Nat.zero_le k)
 unfold bk ln2
 constructor <;> grind

theorem Ex_bk : ∀ k : Nat, k ≤ 7 → Nq (513 * k) (Ex (bk k) * p2 k) 1
 | 0, _ => by
  have : Ex (bk 0) * p2 0 = 1 := by
   have e : bk 0 = 0 := by unfold bk; rw [show ((0 : Nat) : Rat) = 0 from rfl]; grind
   rw [e]
   decide +kernel
  rw [this]
  exact Nq.refl (by grind)
 | k + 1, h => by
  have ih := Ex_bk k (by omega)
  have b1 : Bd (1 / 8) (bk 1) := bk_bd (by omega)
  have bb := bk_bd (k := k) (by omega)
  have bs := bk_bd h
  rw [bk_succ] at bs
  have s := (Ex_sum bb b1 bs).symm
  have e1 : bk 1 = -ln2 / 256 := by unfold bk; rw [show ((1 : Nat) : Rat) = 1 from rfl]; grind
  have l := Ex_ln2
  rw [← e1] at l
  have g := p2_ge k
  have x0 := Ex_nn bb
  have x1 := Ex_nn b1
  have xs := Ex_nn bs
  have m1 := s.mul (Nq.refl (x := 2 * p2 k) (by grind)) xs (Rat.mul_nonneg x0 x1) (by grind) (by grind)
  have p0 := Rat.mul_nonneg x0 (show 0 ≤ p2 k by grind)
  have m2 := ih.mul (l.mul (Nq.refl (x := 2) (by grind)) x1 (by grind) (by grind) (by grind)) p0 (by grind) (Rat.mul_nonneg x1 (by grind)) (by grind)
  rw [bk_succ]
  have e2 : Ex (bk k) * Ex (bk 1) * (2 * p2 k) = Ex (bk k) * p2 k * (Ex (bk 1) * 2) := by grind
  rw [e2] at m1
  have m3 := m1.trans m2
  have e3 : (1 : Rat) * (1 / 2 * 2) = 1 := by grind
  rw [e3] at m3
  have e4 : Ex (bk k + bk 1) * p2 (k + 1) = Ex (bk k + bk 1) * (2 * p2 k) := rfl
  rw [e4]
  refine m3.mono (Rat.mul_nonneg xs (by grind)) (by grind) (by omega)

theorem logOk {s : Nat} (hs : FS s) (hs2 : s ≤ 2130706432) (l0 : 1 / 64 ≤ wS s) (l1 : wS s ≤ 148 / 100) :
  ∃ y, impl_LogNumber s = some y ∧ FS y ∧ Bd (48 / 10) (wS y) ∧ Nq 7400 (Ex (wS y / 256)) (wS s) := by
 obtain ⟨u1, u2, u3⟩ := upD (e := 2) hs (by grind) (by grind) (by grind) (by grind)
 have hup : Apx (2 / 4503599627370496) (wD (fconv .f32 .f64 s)) (wS s) := ⟨u2, u3⟩
 obtain ⟨L, r1, fL, k, q, hk, hq, hL, hr⟩ := logWide u1 (by grind) (by grind)
 have hV : 0 < V32 s := by
  apply Nat.pos_of_ne_zero
  intro h
  have : wS s = 0 := by
   unfold wS
   rw [h, show ((0 : Nat) : Rat) = 0 from rfl]
   have := US_pos
   unfold sg
   split <;> grind
  rw [this] at l0
  grind
 have ho := order_V hs2 (show 0 ≤ 2130706432 by omega)
 rw [V_zero] at ho
 have hcmp : compare ((V32 s : Nat) : Int) ((0 : Nat) : Int) = .gt := by
  simp only [compare, compareOfLessAndEq]
  rw [if_neg (by omega), if_neg (by omega)]
 rw [hcmp] at ho
 have f1 : feq .f32 s 0 = false := by show (Ieee.single.order s 0 == some .eq) = false; rw [ho]; rfl
 have f2 : flt .f32 s 0 = false := by show (Ieee.single.order s 0 == some .lt) = false; rw [ho]; rfl
 have ho2 := order_V hs2 hs2
 have hcmp2 : compare ((V32 s : Nat) : Int) ((V32 s : Nat) : Int) = .eq := by
  simp only [compare, compareOfLessAndEq]
  rw [if_neg (by omega), if_pos trivial]
 rw [hcmp2] at ho2
 have f3 : feq .f32 s s = true := by show (Ieee.single.order s s == some .eq) = true; rw [ho2]; rfl
 have f4 : impl_IsFinite s = some true := by
  have := fin_bd hs.1 (by omega) (by omega)
  unfold impl_IsFinite
  unfold fin at this
  rw [this]
 -- k is at most 6
 have hk6 : k ≤ 6 := by
  apply Nat.le_of_lt_succ
  apply Nat.lt_of_not_le
  intro h7
  have g := p2_big h7
  have m1 := Rat.mul_le_mul_of_nonneg_left g (show 0 ≤ wD (fconv .f32 .f64 s) by grind)
  have m2 := Rat.mul_le_mul_of_nonneg_right (show 15 / 10 + 2 / 100 ≤ wD (fconv .f32 .f64 s) * p2 k by grind) (show 0 ≤ 1 - q by obtain ⟨x1, x2⟩ := hq; grind)
  obtain ⟨x1, x2⟩ := hq
  obtain ⟨x3, x4⟩ := hr
  grind
 have hkc := natLe hk6
 rw [show ((6 : Nat) : Rat) = 6 from rfl] at hkc
 have hk0 : (0 : Rat) ≤ (k : Rat) := natLe (Nat.zero_le k)
 have hel := ell_bd hq
 have hkl : 0 ≤ (k : Rat) * ln2 ∧ (k : Rat) * ln2 ≤ 416 / 100 := by unfold ln2; constructor <;> grind
 obtain ⟨kl1, kl2⟩ := hkl
 obtain ⟨L1, L2⟩ := hL
 obtain ⟨el1, el2⟩ := hel
 obtain ⟨g1, g2, g3, g4⟩ := downD (e := 48 / 10) fL (by grind) (by grind) (by grind) (by grind)
 generalize hy : fconv .f64 .f32 L = y at *
 refine ⟨y, ?_, g2, ⟨by grind, by grind⟩, ?_⟩
 ·unfold impl_LogNumber
  rw [f1, f2, f3, f4]
  simp only [Bool.not_true, cond_false, Option.bind_some, r1]
  rw [guard_pos g1, hy]
 ·-- the exponential
  have ba : Bd (1 / 8) (ell q / 256) := ⟨by grind, by grind⟩
  have bb := bk_bd hk
  have bab : Bd (1 / 8) (ell q / 256 + bk k) := by unfold bk; constructor <;> grind
  have by' : Bd (1 / 8) (wS y / 256) := ⟨by grind, by grind⟩
  have near : Apx (1 / 47000000) (wS y / 256) (ell q / 256 + bk k) := by unfold bk; constructor <;> grind
  have n1 := Ex_lip (k := 8) by' bab near (by grind) (by rw [show ((8 : Nat) : Rat) = 8 from rfl]; grind)
  have n2 := (Ex_sum ba bb bab).symm
  have n3 := Ex_ell hq
  have n4 := Ex_bk k hk
  obtain ⟨x1, x2⟩ := hq
  have g := p2_ge k
  have ea := Ex_nn ba
  have eb := Ex_nn bb
  have ey := Ex_nn by'
  have eab := Ex_nn bab
  have q0 : 0 < 1 - q := by grind
  have w0 : 0 ≤ wD (fconv .f32 .f64 s) := by grind
  have rr : 3 / 4 ≤ 1 + q := by grind
  have n5 : Nq 1 (1 + q) (wD (fconv .f32 .f64 s) * p2 k * (1 - q)) := by
   obtain ⟨x3, x4⟩ := hr
   exact Nq.of_apx ⟨x3, x4⟩ (by rw [show ((1 : Nat) : Rat) = 1 from rfl]; grind) (by rw [show ((1 : Nat) : Rat) = 1 from rfl]; grind) (by grind) (by grind)
  have n6 : Nq 1 (wD (fconv .f32 .f64 s)) (wS s) := Nq.of_apx hup (by rw [show ((1 : Nat) : Rat) = 1 from rfl]; grind) (by rw [show ((1 : Nat) : Rat) = 1 from rfl]; grind) w0 (by grind)
  have m1 := n3.mul n4 (Rat.mul_nonneg ea (by grind)) (by grind) (Rat.mul_nonneg eb (by grind)) (by grind)
  have e1 : (1 + q) * 1 = 1 + q := by grind
  rw [e1] at m1
  have m2 := m1.trans n5
  have e2 : Ex (ell q / 256) * (1 - q) * (Ex (bk k) * p2 k) = Ex (ell q / 256) * Ex (bk k) * (p2 k * (1 - q)) := by grind
  have e3 : wD (fconv .f32 .f64 s) * p2 k * (1 - q) = wD (fconv .f32 .f64 s) * (p2 k * (1 - q)) := by grind
  rw [e2, e3] at m2
  have m3 := m2.cancel (Rat.mul_pos (by grind) q0)
  have all := ((n1.trans n2).trans m3).trans n6
  exact all.mono ey (by grind) (by omega)

end Go.Proofs


/-
 Near on whole numbers is near in ratio; positive floats of 32 bits as rational numbers.
-/
namespace Go.Proofs
open Go.Ide Go.IntWalk

theorem rp_tight : ∀ k : Nat, k ≤ 1000000 → rp k ≤ 1 + (k : Rat) * 102 / 10000000000
 | 0, _ => by show (1 : Rat) ≤ 1 + ((0 : Nat) : Rat) * 102 / 10000000000; rw [show ((0 : Nat) : Rat) = 0 from rfl]; grind
 | k + 1, hk => by
  have h := rp_tight k (by omega)
  have hk' := natLe (show k ≤ 1000000 by omega)
  rw [show ((1000000 : Nat) : Rat) = 1000000 from rfl] at hk'
  have h0 : (0 : Rat) ≤ (k : Rat) := natLe (Nat.zero_le k)
  rw [Rat.natCast_add, show ((1 : Nat) : Rat) = 1 from rfl]
  show rp k * rho ≤ _
  have := Rat.mul_le_mul_of_nonneg_right h (show 0 ≤ rho by rw [rho_eq]; grind)
  rw [rho_eq] at this ⊢
  grind

theorem rp12 : (8388609 : Rat) ≤ 8388608 * rp 12 := by
 have : rp 12 = rho * rho * rho * rho * rho * rho * rho * rho * rho * rho * rho * rho := by
  simp only [rp]; grind
 rw [this, rho_eq]
 grind

theorem near_pow : ∀ k : Nat, ((8388609 ^ k : Nat) : Rat) ≤ ((8388608 ^ k : Nat) : Rat) * rp (12 * k)
 | 0 => by
  show ((1 : Nat) : Rat) ≤ ((1 : Nat) : Rat) * 1
  rw [show ((1 : Nat) : Rat) = 1 from rfl]
  grind
 | k + 1 => by
  have ih := near_pow k
  rw [Nat.pow_succ, Nat.pow_succ, Rat.natCast_mul, Rat.natCast_mul, show 12 * (k + 1) = 12 * k + 12 from rfl, rp_add]
  rw [show ((8388609 : Nat) : Rat) = 8388609 from rfl, show ((8388608 : Nat) : Rat) = 8388608 from rfl]
  have h1 := rp12
  have g1 := rp_ge (12 * k)
  have p : (0 : Rat) ≤ ((8388608 ^ k : Nat) : Rat) := natLe (Nat.zero_le _)
  have a := Rat.mul_le_mul_of_nonneg_right ih (show (0 : Rat) ≤ 8388609 by grind)
  have b := Rat.mul_le_mul_of_nonneg_left h1 (Rat.mul_nonneg p (show 0 ≤ rp (12 * k) by grind))
  grind

theorem nq_of_near {k u v : Nat} (h : Near k u v) : Nq (12 * k) (u : Rat) (v : Rat) := by
 have key : ∀ {u v : Nat}, u * 8388608 ^ k ≤ v * 8388609 ^ k → (u : Rat) ≤ (v : Rat) * rp (12 * k) := by
  intro u v h
  have h1 := natLe h
  rw [Rat.natCast_mul, Rat.natCast_mul] at h1
  have h2 := near_pow k
  have hv : (0 : Rat) ≤ (v : Rat) := natLe (Nat.zero_le v)
  have hp : (0 : Rat) < ((8388608 ^ k : Nat) : Rat) := natPos (Nat.pow_pos (by omega))
  have h3 := Rat.mul_le_mul_of_nonneg_left h2 hv
  refine Rat.le_of_mul_le_mul_right (c := ((8388608 ^ k : Nat) : Rat)) ?_ hp
  grind
 exact ⟨key h.1, key h.2⟩

theorem wS_V {x : Nat} (h : x ≤ 2130706432) : wS x = ((V32 x : Nat) : Rat) / US := by
 unfold wS
 rw [Nat.div_eq_of_lt (by omega)]
 rfl

theorem wS_nn {x : Nat} (h : x ≤ 2130706432) : 0 ≤ wS x := by
 rw [wS_V h]
 have hU := US_pos
 have : (0 : Rat) ≤ ((V32 x : Nat) : Rat) := natLe (Nat.zero_le _)
 generalize ((V32 x : Nat) : Rat) = v at *
 generalize US = U at *
 refine Rat.le_of_mul_le_mul_right (c := U) ?_ hU
 have e : v / U * U = v := by grind
 rw [e]; grind

theorem FS_of {x b : Nat} (h : x ≤ 2130706432) (hb : V32 x ≤ 2 ^ b) (h2 : b ≤ 175) : FS x := by
 refine ⟨by unfold bd; omega, Nat.le_trans hb (Nat.pow_le_pow_right (by omega) ?_)⟩
 have := kS_int
 omega

theorem V149 : US = ((2 ^ 149 : Nat) : Rat) := by
 unfold US
 have : kS = 149 := by have := kS_int; omega
 rw [this]

theorem Rg.fs {a b x : Nat} (h : Rg a b x) (hb : b ≤ 175) : FS x := FS_of h.fin h.hi hb

theorem Rg.w_lo {a b x : Nat} (h : Rg a b x) : ((2 ^ a : Nat) : Rat) ≤ wS x * US := by
 rw [wS_V h.fin]
 have n := natLe h.lo
 have hU := US_pos
 generalize ((V32 x : Nat) : Rat) = v at *
 generalize US = U at *
 have e : v / U * U = v := by grind
 rw [e]; exact n

end Go.Proofs


/-
 Operations on positive floats of 32 bits, near in ratio; sums of rational numbers.
-/
namespace Go.Proofs
open Go.Ide Go.IntWalk

theorem Nq.add {k : Nat} {x y z w : Rat} (h : Nq k x y) (h' : Nq k z w) : Nq k (x + z) (y + w) := by
 obtain ⟨h1, h2⟩ := h
 obtain ⟨h3, h4⟩ := h'
 constructor <;> grind

theorem Nq.mulr {k : Nat} {x y c : Rat} (h : Nq k x y) (hc : 0 ≤ c) : Nq k (x * c) (y * c) := by
 obtain ⟨h1, h2⟩ := h
 have a := Rat.mul_le_mul_of_nonneg_right h1 hc
 have b := Rat.mul_le_mul_of_nonneg_right h2 hc
 constructor <;> grind

def sumQ (f : Nat → Rat) : Nat → Rat
 | 0 => 0
 | n + 1 => sumQ f n + f n

theorem sumQ_nn {f : Nat → Rat} : ∀ n, (∀ i, i < n → 0 ≤ f i) → 0 ≤ sumQ f n
 | 0, _ => by show (0 : Rat) ≤ 0; grind
 | n + 1, h => by
  have h1 := sumQ_nn n (fun i hi => h i (by omega))
  have h2 := h n (by omega)
  show 0 ≤ sumQ f n + f n
  grind

theorem sumQ_near {k : Nat} {f g : Nat → Rat} : ∀ n, (∀ i, i < n → Nq k (f i) (g i)) → Nq k (sumQ f n) (sumQ g n)
 | 0, _ => by
  have := rp_ge k
  show Nq k 0 0
  constructor <;> grind
 | n + 1, h => (sumQ_near n fun i hi => h i (by omega)).add (h n (by omega))

theorem sumQ_mul (f : Nat → Rat) (c : Rat) : ∀ n, sumQ f n * c = sumQ (fun i => f i * c) n
 | 0 => by show (0 : Rat) * c = 0; grind
 | n + 1 => by
  show (sumQ f n + f n) * c = sumQ (fun i => f i * c) n + f n * c
  rw [← sumQ_mul f c n]; grind

theorem sumQ_congr {f g : Nat → Rat} : ∀ n, (∀ i, i < n → f i = g i) → sumQ f n = sumQ g n
 | 0, _ => rfl
 | n + 1, h => by
  show sumQ f n + f n = sumQ g n + g n
  rw [sumQ_congr n fun i hi => h i (by omega), h n (by omega)]

theorem sumQ_add (f g : Nat → Rat) : ∀ n, sumQ f n + sumQ g n = sumQ (fun i => f i + g i) n
 | 0 => by show (0 : Rat) + 0 = 0; grind
 | n + 1 => by
  show (sumQ f n + f n) + (sumQ g n + g n) = sumQ (fun i => f i + g i) n + (f n + g n)
  rw [← sumQ_add f g n]; grind

theorem sumQ_swap (f : Nat → Nat → Rat) (m : Nat) : ∀ n, sumQ (fun i => sumQ (f i) m) n = sumQ (fun j => sumQ (fun i => f i j) n) m
 | 0 => by
  show (0 : Rat) = sumQ (fun j => 0) m
  induction m with
  | zero => rfl
  | succ m ih => show (0 : Rat) = sumQ (fun j => 0) m + 0; rw [← ih]; grind
 | n + 1 => by
  show sumQ (fun i => sumQ (f i) m) n + sumQ (f n) m = sumQ (fun j => sumQ (fun i => f i j) n + f n j) m
  rw [sumQ_swap f m n, sumQ_add]

theorem cast149 : ((2 ^ 149 : Nat) : Rat) = US := V149.symm

theorem mul_nq {a b c d x y : Nat} (hx : Rg a b x) (hy : Rg c d y) (h1 : 172 ≤ a + c) (h2 : b + d ≤ 424) (h3 : a + c ≤ 425) (h4 : 172 ≤ b + d) : Nq 12 (wS (fop .mul .f32 x y)) (wS x * wS y) := by
 obtain ⟨r, n⟩ := mul_rg hx hy h1 h2 h3 h4
 have q := nq_of_near n
 rw [Rat.natCast_mul, Rat.natCast_mul, cast149] at q
 rw [wS_V r.fin, wS_V hx.fin, wS_V hy.fin]
 have hU := US_pos
 refine Nq.cancel (c := US * US) ?_ (Rat.mul_pos hU hU)
 generalize ((V32 (fop .mul .f32 x y) : Nat) : Rat) = z at *
 generalize ((V32 x : Nat) : Rat) = u at *
 generalize ((V32 y : Nat) : Rat) = v at *
 generalize US = U at *
 have e1 : z / U * (U * U) = z * U := by grind
 have e2 : u / U * (v / U) * (U * U) = u * v := by grind
 rw [e1, e2]
 exact q

theorem div_nq {k u v : Nat} (h : Near k u v) : Nq (12 * k) ((u : Rat) / US) ((v : Rat) / US) := by
 have n := nq_of_near h
 have hU := US_pos
 refine Nq.cancel (c := US) ?_ hU
 generalize (u : Rat) = a at *
 generalize (v : Rat) = b at *
 generalize US = U at *
 have e1 : a / U * U = a := by grind
 have e2 : b / U * U = b := by grind
 rw [e1, e2]
 exact n

theorem castSum (f : Nat → Nat) : ∀ n, ((sumN f n : Nat) : Rat) / US = sumQ (fun i => ((f i : Nat) : Rat) / US) n
 | 0 => by
  show ((0 : Nat) : Rat) / US = 0
  rw [show ((0 : Nat) : Rat) = 0 from rfl]
  grind
 | n + 1 => by
  show ((sumN f n + f n : Nat) : Rat) / US = sumQ _ n + _
  rw [← castSum f n, Rat.natCast_add]
  have hU := US_pos
  grind

theorem sum_nq {f : Nat → Nat} {t : Nat → Nat} {lo hi : Nat} (hb : 23 ≤ hi) (h0 : f 0 = 0) (hs : ∀ p, f (p + 1) = fop .add .f32 (f p) (t p)) (n : Nat) (ht : ∀ p, p < n → Rg lo hi (t p)) (hn : hi + n ≤ 274) :
  Nq (12 * n) (wS (f n)) (sumQ (fun p => wS (t p)) n) := by
 obtain ⟨h1, _, h3, _⟩ := sum_rg hb h0 hs n ht hn
 have q := div_nq h3
 rw [castSum] at q
 rw [wS_V h1]
 rw [sumQ_congr n (g := fun i => ((V32 (t i) : Nat) : Rat) / US) fun i hi => wS_V (ht i hi).fin]
 exact q

theorem quo_nq {a b c d x y : Nat} (hx : Rg a b x) (hy : Rg c d y) (h1 : d ≤ a + 125) (h2 : b ≤ c + 125) (h3 : c ≤ b + 120) : Nq 24 (wS (fop .quo .f32 x y) * wS y) (wS x) := by
 obtain ⟨r, n⟩ := quo_rg hx hy h1 h2 h3
 have q := nq_of_near n
 rw [Rat.natCast_mul, Rat.natCast_mul, cast149] at q
 rw [wS_V r, wS_V hx.fin, wS_V hy.fin]
 have hU := US_pos
 refine Nq.cancel (c := US * US) ?_ (Rat.mul_pos hU hU)
 generalize ((V32 (fop .quo .f32 x y) : Nat) : Rat) = z at *
 generalize ((V32 x : Nat) : Rat) = u at *
 generalize ((V32 y : Nat) : Rat) = v at *
 generalize US = U at *
 have e1 : z / U * (v / U) * (U * U) = z * v := by grind
 have e2 : u / U * (U * U) = u * U := by grind
 rw [e1, e2]
 exact q

end Go.Proofs


/-
 Drawn rows, and how near 1 their sums are. Printed by drawg.py out of PlNC and PlND.
-/
namespace Go.Proofs
open Go.Ide Go.IntWalk

def RowG (row : List Nat) : Prop := okRow row = true ∧ Near 6 (sumN (fun i => V32 (row.getD i 0)) row.length) (2 ^ 149) ∧ ∀ i, i < row.length → 2 ^ 149 ≤ 33 * V32 (row.getD i 0)

theorem ent_33 {A W r T : Nat} (h0 : 0 < A) (l1 : A ≤ W) (h5 : W * A * 10000 ≤ r * T * 10001) (l5 : T * 10000 ≤ 32 * A * 10001) : A ≤ 33 * r := by
 have h1 : A * A * 10000 ≤ W * A * 10000 := Nat.mul_le_mul_right _ (Nat.mul_le_mul_right _ l1)
 have h2 : r * (T * 10000) ≤ r * (32 * A * 10001) := Nat.mul_le_mul_left _ l5
 have h3 : A * A * 10000 * 10000 ≤ r * (32 * A * 10001) * 10001 := by
  have a : A * A * 10000 * 10000 ≤ r * T * 10001 * 10000 := Nat.mul_le_mul_right _ (Nat.le_trans h1 h5)
  have b : r * T * 10001 * 10000 = r * (T * 10000) * 10001 := by ac_rfl
  rw [b] at a
  exact Nat.le_trans a (Nat.mul_le_mul_right _ h2)
 have e1 : A * A * 10000 * 10000 = A * (A * 100000000) := by rw [Nat.mul_assoc, Nat.mul_assoc]
 have e2 : r * (32 * A * 10001) * 10001 = A * (r * 32 * 10001 * 10001) := by ac_rfl
 rw [e1, e2] at h3
 have := Nat.le_of_mul_le_mul_left h3 h0
 omega

theorem row_okG {ws : List Nat} (h1 : 1 ≤ ws.length) (h4 : ws.length ≤ 4) (hw : ∀ i, i < ws.length → Rg 149 152 (ws.getD i 0)) :
  RowG (quoF ws (sumF ws ws.length)) ∧ (quoF ws (sumF ws ws.length)).length = ws.length ∧ ∀ i, i < ws.length → Ent ((quoF ws (sumF ws ws.length)).getD i 0) := by
 have hl := quoF_len ws (sumF ws ws.length)
 obtain ⟨s1, s2, s3, s4⟩ := sumF_near (xs := ws) (b := 152) (by omega) (fun i hi => ⟨(hw i hi).fin, (hw i hi).hi⟩) ws.length (Nat.le_refl _) (by omega)
 have hg : ∀ i, i < ws.length → (quoF ws (sumF ws ws.length)).getD i 0 = fop .quo .f32 (ws.getD i 0) (sumF ws ws.length) := fun i hi => by
  unfold quoF
  rw [List.getD_eq_getElem?_getD, List.getElem?_map, List.getElem?_range hi]; rfl
 have hT0 := s4 0 (by omega)
 have hT : Rg 149 156 (sumF ws ws.length) := ⟨s1, Nat.le_trans (hw 0 (by omega)).lo (V_mono (by have := (hw 0 (by omega)).fin; omega) (by omega) hT0), Nat.le_trans s2 (Nat.pow_le_pow_right (by omega) (by omega))⟩
 have hTpos : 0 < V32 (sumF ws ws.length) := by have := hT.lo; have := pow_pos2 149; omega
 have hent : ∀ i, i < ws.length → (Ent (fop .quo .f32 (ws.getD i 0) (sumF ws ws.length)) ∧ 2 ^ 149 ≤ 33 * V32 (fop .quo .f32 (ws.getD i 0) (sumF ws ws.length))) ∧ Near 2 (V32 (fop .quo .f32 (ws.getD i 0) (sumF ws ws.length)) * V32 (sumF ws ws.length)) (V32 (ws.getD i 0) * 2 ^ 149) := fun i hi => by
  obtain ⟨q1, q2⟩ := quo_rg (hw i hi) hT (by omega) (by omega) (by omega)
  have q3 := quo_share (x := ws.getD i 0) (y := sumF ws ws.length) (a := 254) (hw i hi).bd hT.bd (by omega) (by omega) (by have := (hw i hi).fin; unfold pos32; omega) (by unfold pos32; omega) (s4 i hi) (by
   intro e
   rw [e, V_zero] at hTpos
   exact Nat.lt_irrefl _ hTpos)
  refine ⟨⟨⟨q1, ?_, ?_⟩, ?_⟩, q2⟩
  ·have h5 := q2.symm.le (by omega)
   have l1 := (hw i hi).lo
   have l2 := s3.le (by omega)
   have l3 := sumN_le (f := fun i => V32 (ws.getD i 0)) (c := 2 ^ 152) ws.length (fun j hj => (hw j hj).hi)
   have l4 : ws.length * 2 ^ 152 ≤ 4 * 2 ^ 152 := Nat.mul_le_mul_right _ h4
   generalize V32 (fop .quo .f32 (ws.getD i 0) (sumF ws ws.length)) = r at *
   generalize sumN (fun i => V32 (ws.getD i 0)) ws.length = S at *
   generalize V32 (sumF ws ws.length) = T at *
   have e1 : (2 : Nat) ^ 149 = 64 * 2 ^ 143 := by decide
   have e2 : (2 : Nat) ^ 152 = 8 * 2 ^ 149 := by decide
   rw [e2] at l3 l4
   have h0 := pow_pos2 149
   generalize V32 (ws.getD i 0) = W at *
   generalize (2 : Nat) ^ 149 = A at *
   generalize (2 : Nat) ^ 143 = B at *
   exact ent_lo e1 h0 l1 h5 (tot_hi l2 (Nat.le_trans l3 l4))
  ·rw [← V_one]
   exact V_mono (by omega) (by omega) q3
  ·have h5 := q2.symm.le (by omega)
   have l1 := (hw i hi).lo
   have l2 := s3.le (by omega)
   have l3 := sumN_le (f := fun i => V32 (ws.getD i 0)) (c := 2 ^ 152) ws.length (fun j hj => (hw j hj).hi)
   have l4 : ws.length * 2 ^ 152 ≤ 4 * 2 ^ 152 := Nat.mul_le_mul_right _ h4
   generalize V32 (fop .quo .f32 (ws.getD i 0) (sumF ws ws.length)) = r at *
   generalize sumN (fun i => V32 (ws.getD i 0)) ws.length = S at *
   generalize V32 (sumF ws ws.length) = T at *
   have e2 : (2 : Nat) ^ 152 = 8 * 2 ^ 149 := by decide
   rw [e2] at l3 l4
   have h0 := pow_pos2 149
   generalize V32 (ws.getD i 0) = W at *
   generalize (2 : Nat) ^ 149 = A at *
   exact ent_33 h0 l1 h5 (tot_hi l2 (Nat.le_trans l3 l4))
 refine ⟨?_, hl, fun i hi => by rw [hg i hi]; exact (hent i hi).1.1⟩
 have n1 : Near 2 (sumN (fun i => V32 ((quoF ws (sumF ws ws.length)).getD i 0)) ws.length * V32 (sumF ws ws.length)) (sumN (fun i => V32 (ws.getD i 0)) ws.length * 2 ^ 149) := by
  rw [sumN_mul, sumN_mul]
  exact near_sum _ fun i hi => by rw [hg i hi]; exact (hent i hi).2
 have n2 : Near (2 + ws.length) (sumN (fun i => V32 ((quoF ws (sumF ws ws.length)).getD i 0)) ws.length * V32 (sumF ws ws.length)) (2 ^ 149 * V32 (sumF ws ws.length)) := by
  refine n1.trans ?_
  rw [Nat.mul_comm (2 ^ 149)]
  exact s3.symm.mulr _
 refine ⟨?_, by rw [hl]; exact (n2.cancel hTpos).mono (by omega), fun i hi => by rw [hg i (by omega)]; exact (hent i (by omega)).1.2⟩
 unfold okRow
 rw [Bool.and_eq_true]
 constructor
 ·refine allN_iff.2 fun i _ hi => ?_
  have hi : i < ws.length := by omega
  rw [hg i hi]
  obtain ⟨⟨q1, _⟩, q2⟩ := hent i hi
  unfold share
  rw [fge_V q1.fin (by omega), fle_V q1.fin (by omega), V_zero, V_one]
  rw [decide_eq_true (Nat.zero_le _), decide_eq_true q1.hi]; rfl
 ·obtain ⟨r1, r2, r3, _⟩ := sumF_near (xs := quoF ws (sumF ws ws.length)) (b := 149) (by omega) (fun i hi => by
   rw [hg i (by omega)]
   exact ⟨(hent i (by omega)).1.1.fin, (hent i (by omega)).1.1.hi⟩) ws.length (by omega) (by omega)
  rw [hl]
  refine nearOne_of r1 ?_
  exact (r3.trans (n2.cancel hTpos)).mono (by omega)

theorem quoLoopG {xs : List Nat} {sr : SrcD} (all : Nat) (h : xs.length ≤ 1000000) : rounds (spec_b10Row_B1 (all, sr, xs)) ((0 : Int), xs) = some (quoF xs all) := by
 have h1 := rounds_forS (f := spec_b10Row_B1 (all, sr, xs)) (fun i out => (((i : Nat) : Int), out)) (fun i out => out.set i (fop .quo .f32 (out.getD i 0) all)) id (n := xs.length)
  (fun i out => out = (List.range i).map (fun i => fop .quo .f32 (xs.getD i 0) all) ++ xs.drop i)
  (fun i out hi ho => by
   have hol : out.length = xs.length := by rw [ho]; simp; omega
   have hg : out.getD i 0 = xs.getD i 0 := by
    rw [ho, List.getD_eq_getElem?_getD, List.getElem?_append_right (by simp)]
    simp [List.getD_eq_getElem?_getD]
   refine ⟨?_, ?_⟩
   ·have j1 := idxN (i := i) (n := out.length) (by omega)
    unfold spec_b10Row_B1
    simp only [lenI, ltN hi, cond_true, Int.toNat_natCast, nextN hi (show xs.length ≤ 4294967296 by omega)]
    rw [guard_pos j1]
   ·rw [hg, ho, drop_cons hi 0, set_at (by simp), List.range_succ, List.map_append]
    simp)
  (fun out _ => by
   unfold spec_b10Row_B1
   simp only [lenI, geN (Nat.le_refl _), cond_false]; rfl) xs.length 0 xs (by omega) (by simp)
 simp only [Int.natCast_zero] at h1
 have h2 := h1.2
 rw [List.drop_length, List.append_nil] at h2
 rw [h1.1]
 simp only [id]
 rw [h2]; rfl

theorem drawRowG {k g : Nat} (k1 : 1 ≤ k) (k4 : k ≤ 4) {s : SrcD} (hs : SrcOK (8 + g) s) :
  ∃ row s', spec_b10Row s (k : Int) = some (row, s') ∧ RowG row ∧ row.length = k ∧ (∀ i, i < k → Ent (row.getD i 0)) ∧ SrcOK g s' := by
 obtain ⟨r, er, r1, r2, r3, r4⟩ := rounds_inv (f := spec_b10Row_B2 (k : Int)) (fun m st => ∃ (i : Nat) (s : SrcD) (ws : List Nat), m + i = k ∧ st = (sumF ws ws.length, (i : Int), s, ws) ∧ ws.length = i ∧ SrcOK (m * 2 + g) s ∧ ∀ j, j < ws.length → Rg 149 152 (ws.getD j 0))
  (fun r => r.1 = sumF r.2.2 r.2.2.length ∧ r.2.2.length = k ∧ SrcOK g r.2.1 ∧ ∀ j, j < r.2.2.length → Rg 149 152 (r.2.2.getD j 0)) (by
   rintro m st ⟨i, s, ws, hm, rfl, hl, hs2, hw⟩
   unfold spec_b10Row_B2
   by_cases hi : i < k
   ·obtain ⟨x, s', e, x1, x2, o⟩ := pick_ok (n := (m - 1) * 2 + g) (hs2.mono (by omega)) (5 : Int)
    have hwt := weight (x := x) (by omega)
    simp only [ltN hi, cond_true, e, Option.bind_some, nextN hi (show k ≤ 4294967296 by omega)]
    rw [guard_pos (by simp only [List.length_singleton, appMax]; omega)]
    refine .inl ⟨m - 1, _, by omega, rfl, i + 1, s', ws ++ [fofint .f32 (wadd .i64 (1 : Int) x)], by omega, ?_, by simp; omega, o, fun j hj => ?_⟩
    ·congr 1
     rw [List.length_append, List.length_singleton]
     show _ = fop .add .f32 (sumF (ws ++ [fofint .f32 (wadd .i64 (1 : Int) x)]) ws.length) ((ws ++ [fofint .f32 (wadd .i64 (1 : Int) x)]).getD ws.length 0)
     rw [sumF_app _ (Nat.le_refl _), getD_appN, if_neg (Nat.lt_irrefl _), Nat.sub_self]
     rfl
    ·rw [getD_appN]
     split
     ·rename_i h; exact hw j h
     ·have : j - ws.length = 0 := by simp at hj; omega
      rw [this]; exact hwt
   ·have hik : i = k := by omega
    simp only [geN (show k ≤ i by omega), cond_false]
    exact .inr ⟨_, rfl, rfl, by simp only; omega, hs2.mono (by omega), hw⟩) k ((0 : Nat), (0 : Int), s, ([] : List Nat)) ⟨0, s, [], by omega, rfl, rfl, hs.mono (by omega), fun j hj => by simp at hj⟩
 obtain ⟨T, s', ws⟩ := r
 simp only at r1 r2 r3 r4
 obtain ⟨q1, q2, q3⟩ := row_okG (ws := ws) (by omega) (by omega) r4
 rw [← r1] at q1 q2 q3
 refine ⟨quoF ws T, s', ?_, q1, by omega, fun i hi => q3 i (by omega), r3⟩
 have hq : rounds (spec_b10Row_B1 (T, s', ws)) ((0 : Int), ws) = some (quoF ws T) := by
  rw [quoLoopG T (by omega)]
 unfold spec_b10Row
 simp only [er, hq, Option.bind_some]

structure RowsG (w i : Nat) (xs : List Nat) : Prop where
 len : xs.length = i * w
 ok : ∀ p, p < i → RowG (rowF xs w p)
 ent : ∀ p, p < xs.length → Ent (xs.getD p 0)

theorem RowsG.snoc {w i : Nat} {xs row : List Nat} (h : RowsG w i xs) (hr : RowG row) (hl : row.length = w) (he : ∀ j, j < w → Ent (row.getD j 0)) : RowsG w (i + 1) (xs ++ row) := by
 have hlen := h.len
 refine ⟨by rw [List.length_append, hlen, hl, Nat.succ_mul], fun p hp => ?_, fun p hp => ?_⟩
 ·by_cases e : p < i
  ·have hpw : p * w + w ≤ i * w := by rw [← Nat.succ_mul]; exact Nat.mul_le_mul_right _ e
   have : rowF (xs ++ row) w p = rowF xs w p := by
    unfold rowF
    rw [List.drop_append_of_le_length (by omega), List.take_append_of_le_length (by rw [List.length_drop]; omega)]
   rw [this]; exact h.ok p e
  ·have hpi : p = i := by omega
   subst hpi
   have : rowF (xs ++ row) w p = row := by
    unfold rowF
    rw [← hlen, List.drop_left, ← hl, List.take_length]
   rw [this]; exact hr
 ·rw [getD_appN]
  rw [List.length_append] at hp
  split
  ·rename_i h2; exact h.ent p h2
  ·exact he _ (by omega)

structure DrawnG (a b : Nat) (fs ss hs : List Nat) : Prop where
 d : Drawn a b fs ss hs
 gf : RowG fs
 gs : ∀ p, p < a → RowG (rowF ss a p)
 gh : ∀ p, p < a → RowG (rowF hs b p)

theorem drawModelG {c : List Int} (hc : BytesI c) {b : Nat} (b1 : 1 ≤ b) (b4 : b ≤ 4) : ∃ (a : Nat) (fs ss hs : List Nat), spec_B10Model c (b : Int) = some ((a : Int), (b : Int), fs, ss, hs) ∧ DrawnG a b fs ss hs := by
 obtain ⟨ef, of⟩ := SrcOK.from hc
 obtain ⟨x, s1, e1, x1, x2, o1⟩ := pick_ok (n := 10000) (of.mono (by omega)) (4 : Int)
 obtain ⟨a, ha, a1, a4⟩ : ∃ a : Nat, wadd .i64 (1 : Int) x = (a : Int) ∧ 1 ≤ a ∧ a ≤ 4 := ⟨(1 + x).toNat, by rw [waddI (by omega)]; omega, by omega, by omega⟩
 obtain ⟨fs, s2, e2, f1, f2, f3, o2⟩ := drawRowG (k := a) a1 a4 (g := 5000) (o1.mono (by omega))
 obtain ⟨r, er, r1, r2⟩ := rounds_inv (f := spec_B10Model_B1 (b : Int) (x, s1)) (fun m st => ∃ (i : Nat) (s : SrcD) (ss hs : List Nat), m + i = a ∧ st = ((i : Int), s, ss, hs) ∧ SrcOK (m * 100) s ∧ RowsG a i ss ∧ RowsG b i hs)
  (fun r => RowsG a a r.1 ∧ RowsG b a r.2) (by
   rintro m st ⟨i, s, ss, hs, hm, rfl, hsr, h1, h2⟩
   unfold spec_B10Model_B1
   simp only [ha]
   have l1 := h1.len
   have l2 := h2.len
   by_cases hi : i < a
   ·obtain ⟨row, s3, q1, q2, q3, q4, q5⟩ := drawRowG (k := a) a1 a4 (g := (m - 1) * 100 + 50) (hsr.mono (by omega))
    obtain ⟨row2, s4, p1, p2, p3, p4, p5⟩ := drawRowG (k := b) b1 b4 (g := (m - 1) * 100) (q5.mono (by omega))
    have hia : i * a ≤ 4 * 4 := Nat.mul_le_mul (by omega) a4
    have hib : i * b ≤ 4 * 4 := Nat.mul_le_mul (by omega) b4
    simp only [ltN hi, cond_true, q1, p1, Option.bind_some, nextN hi (show a ≤ 4294967296 by omega)]
    rw [guard_pos (by simp only [appMax]; omega), guard_pos (by simp only [appMax]; omega)]
    exact .inl ⟨m - 1, _, by omega, rfl, i + 1, s4, _, _, by omega, rfl, p5, h1.snoc q2 q3 q4, h2.snoc p2 p3 p4⟩
   ·have hia : i = a := by omega
    rw [hia] at h1 h2
    simp only [geN (show a ≤ i by omega), cond_false]
    exact .inr ⟨_, rfl, h1, h2⟩) a ((0 : Int), s2, ([] : List Nat), ([] : List Nat)) ⟨0, s2, [], [], by omega, rfl, o2.mono (by omega), ⟨by simp, fun p hp => absurd hp (Nat.not_lt_zero p), fun p hp => by simp at hp⟩, ⟨by simp, fun p hp => absurd hp (Nat.not_lt_zero p), fun p hp => by simp at hp⟩⟩
 obtain ⟨ss, hs⟩ := r
 simp only at r1 r2
 have m1 : a * a ≤ 4 * 4 := Nat.mul_le_mul a4 a4
 have m2 : a * b ≤ 4 * 4 := Nat.mul_le_mul a4 b4
 have ls := r1.len
 have lh := r2.len
 have hok : okModel (a : Int) (b : Int) fs ss hs = true := by
  unfold okModel
  rw [wmulI (by rw [← Int.natCast_mul]; omega), ← Int.natCast_mul, wmulI (by rw [← Int.natCast_mul]; omega), ← Int.natCast_mul]
  simp only [Bool.and_eq_true, decide_eq_true_eq, beq_iff_eq, lenI, Int.toNat_natCast]
  exact ⟨⟨by omega, by omega⟩, ⟨by omega, by omega⟩, by omega, by omega, by omega, f1.1, allN_iff.2 fun i _ hi => (r1.ok i (by omega)).1, allN_iff.2 fun i _ hi => (r2.ok i (by omega)).1⟩
 obtain ⟨a', b', ha', hb', mm⟩ := model_of hok
 have ea : a' = a := by omega
 have eb : b' = b := by omega
 subst ea eb
 refine ⟨a', fs, ss, hs, ?_, ⟨a4, hok, mm, fun i hi => f3 i hi, fun i j hi hj => r1.ent _ (by rw [ls]; exact cell_lt hi hj), fun i j hi hj => r2.ent _ (by rw [lh]; exact cell_lt hi hj)⟩, f1, r1.ok, r2.ok⟩
 unfold spec_B10Model
 simp only [ef, e1, ha, e2, er, Option.bind_some]

end Go.Proofs


/-
 The next row and the chance of a letter, as rational numbers.
-/
namespace Go.Proofs
open Go.Ide Go.IntWalk

section
variable {a b : Nat} {fs ss hs : List Nat}

theorem let_nq (d : Drawn a b fs ss hs) {row : List Nat} {c lo hi : Nat} (hc : c < b) (hr : RowRg a lo hi row) (h1 : 39 ≤ lo) (h2 : lo ≤ hi) (h3 : hi ≤ 250) :
  Rg (lo - 6) (hi + 4) (letF b hs row c a) ∧ Nq 60 (wS (letF b hs row c a)) (sumQ (fun p => wS (row.getD p 0) * wS (hs.getD (p * b + c) 0)) a) := by
 have a1 := d.m.n1
 have a4 := d.a4
 have ht : ∀ p, p < a → Rg (lo - 6) hi (fop .mul .f32 (row.getD p 0) (hs.getD (p * b + c) 0)) := fun p hp =>
  (mul_rg (hr p hp) (d.eh p c hp hc) (by omega) (by omega) (by omega) (by omega)).1.mono (by omega) (by omega)
 obtain ⟨q1, q2, _, q4⟩ := sum_rg (f := letF b hs row c) (by omega) rfl (fun p => rfl) a ht (by omega)
 refine ⟨⟨q1, q4 (by omega), Nat.le_trans q2 (Nat.pow_le_pow_right (by omega) (by omega))⟩, ?_⟩
 have n1 := sum_nq (f := letF b hs row c) (by omega) rfl (fun p => rfl) a ht (by omega)
 have n2 := sumQ_near (k := 12) a fun p hp => mul_nq (hr p hp) (d.eh p c hp hc) (by omega) (by omega) (by omega) (by omega)
 have p1 : 0 ≤ wS (letF b hs row c a) := wS_nn q1
 have p2 := sumQ_nn (f := fun p => wS (row.getD p 0) * wS (hs.getD (p * b + c) 0)) a fun p hp => Rat.mul_nonneg (wS_nn (hr p hp).fin) (wS_nn (d.eh p c hp hc).fin)
 exact (n1.trans n2).mono p1 p2 (by omega)

theorem next_nq (d : Drawn a b fs ss hs) {row : List Nat} {c lo hi : Nat} (hc : c < b) (hr : RowRg a lo hi row) (h1 : 39 ≤ lo) (h2 : lo ≤ hi) (h3 : hi ≤ 250) {j : Nat} (hj : j < a) :
  Nq 72 (wS ((nextF a b ss hs row c).getD j 0)) (sumQ (fun p => wS (row.getD p 0) * wS (hs.getD (p * b + c) 0) * wS (ss.getD (p * a + j) 0)) a) := by
 have a1 := d.m.n1
 have a4 := d.a4
 have m1 := fun p (hp : p < a) => mul_rg (hr p hp) (d.eh p c hp hc) (by omega) (by omega) (by omega) (by omega)
 have ht : ∀ p, p < a → Rg (lo - 12) hi (fop .mul .f32 (fop .mul .f32 (row.getD p 0) (hs.getD (p * b + c) 0)) (ss.getD (p * a + j) 0)) := fun p hp =>
  (mul_rg (m1 p hp).1 (d.es p j hp hj) (by omega) (by omega) (by omega) (by omega)).1.mono (by omega) (by omega)
 rw [nextF_get hj]
 obtain ⟨q1, _, _, _⟩ := sum_rg (f := cellF a b ss hs row c j) (by omega) rfl (fun p => rfl) a ht (by omega)
 have n1 := sum_nq (f := cellF a b ss hs row c j) (by omega) rfl (fun p => rfl) a ht (by omega)
 have n2 := sumQ_near (k := 24) a (f := fun p => wS (fop .mul .f32 (fop .mul .f32 (row.getD p 0) (hs.getD (p * b + c) 0)) (ss.getD (p * a + j) 0))) (g := fun p => wS (row.getD p 0) * wS (hs.getD (p * b + c) 0) * wS (ss.getD (p * a + j) 0)) fun p hp => by
  have x1 := mul_nq (m1 p hp).1 (d.es p j hp hj) (by omega) (by omega) (by omega) (by omega)
  have x2 := mul_nq (hr p hp) (d.eh p c hp hc) (by omega) (by omega) (by omega) (by omega)
  have x3 := x2.mulr (wS_nn (d.es p j hp hj).fin)
  exact x1.trans x3
 have p1 := wS_nn q1
 have p2 := sumQ_nn (f := fun p => wS (row.getD p 0) * wS (hs.getD (p * b + c) 0) * wS (ss.getD (p * a + j) 0)) a fun p hp => Rat.mul_nonneg (Rat.mul_nonneg (wS_nn (hr p hp).fin) (wS_nn (d.eh p c hp hc).fin)) (wS_nn (d.es p j hp hj).fin)
 exact (n1.trans n2).mono p1 p2 (by omega)

theorem rowG_sum {row : List Nat} {n : Nat} (h : RowG row) (hl : row.length = n) (he : ∀ i, i < n → Ent (row.getD i 0)) : Nq 72 (sumQ (fun i => wS (row.getD i 0)) n) 1 := by
 have q := div_nq h.2.1
 rw [castSum, hl, cast149] at q
 have hU := US_pos
 have e : US / US = 1 := by grind
 rw [e] at q
 rw [sumQ_congr n (g := fun i => ((V32 (row.getD i 0) : Nat) : Rat) / US) fun i hi => wS_V (he i hi).fin]
 exact q

theorem rowG_lo {row : List Nat} (h : RowG row) {i : Nat} (hi : i < row.length) (he : Ent (row.getD i 0)) : 1 / 33 ≤ wS (row.getD i 0) ∧ wS (row.getD i 0) ≤ 1 := by
 have n := natLe (h.2.2 i hi)
 rw [Rat.natCast_mul, cast149, show ((33 : Nat) : Rat) = 33 from rfl] at n
 have n2 := natLe he.hi
 rw [cast149] at n2
 rw [wS_V he.fin]
 have hU := US_pos
 generalize ((V32 (row.getD i 0) : Nat) : Rat) = v at *
 generalize US = U at *
 have e : v / U * U = v := by grind
 constructor
 ·refine Rat.le_of_mul_le_mul_right (c := U) ?_ hU
  rw [e]; grind
 ·refine Rat.le_of_mul_le_mul_right (c := U) ?_ hU
  rw [e]; grind

end

end Go.Proofs


/-
 A round of LogChanceOf.
-/
namespace Go.Proofs
open Go.Ide Go.IntWalk

theorem loop_mapX {f : Int × List Nat → Option ((Int × List Nat) ⊕ List Nat)} (xs : List Nat) (h : Nat → Nat)
  (hstep : ∀ (i : Nat) (out : List Nat), i < xs.length → out.length = xs.length → out.getD i 0 = xs.getD i 0 → f ((i : Int), out) = some (.inl (((i + 1 : Nat) : Int), out.set i (h (xs.getD i 0)))))
  (hend : ∀ out : List Nat, out.length = xs.length → f (((xs.length : Nat) : Int), out) = some (.inr out)) : rounds f ((0 : Int), xs) = some (xs.map h) := by
 have := rounds_forS (f := f) (fun i out => (((i : Nat) : Int), out)) (fun i out => out.set i (h (xs.getD i 0))) id (n := xs.length) (fun i out => out = (xs.take i).map h ++ xs.drop i)
  (fun i out hi ho => ⟨hstep i out hi (by rw [ho]; simp; omega) (by
   rw [ho]
   simp only [List.getD_eq_getElem?_getD]
   rw [List.getElem?_append_right (by simp; omega)]
   simp only [List.length_map, List.length_take, List.getElem?_drop]
   rw [show i + (i - min i xs.length) = i by omega]), by
   rw [ho, take_snoc hi 0, drop_cons hi 0, set_at (by simp; omega)]
   simp⟩)
  (fun out ho => hend out (by rw [ho]; simp)) xs.length 0 xs (by omega) (by simp)
 simp only [Int.natCast_zero] at this
 rw [this.1, show id (forS _ xs.length 0 xs) = forS _ xs.length 0 xs from rfl, this.2]
 simp

def divX (a b : Nat) (ss hs row : List Nat) (c : Nat) : List Nat := (nextF a b ss hs row c).map fun x => fop .quo .f32 x (letF b hs row c a)

section
variable {a b : Nat} {fs ss hs : List Nat}

theorem logRound (m : Model a b fs ss hs) {w : List Int} {i c total y : Nat} {row : List Nat} (hwl : w.length ≤ 12) (hi : i < w.length) (hc : w.getD i 0 = (c : Int)) (hc2 : c < b) (hl : row.length = a)
  (hd : fgt .f32 (letF b hs row c a) 0 = true) (hy : impl_LogNumber (letF b hs row c a) = some y) :
  impl_LogChanceOf_B3 ((a : Int), (b : Int), fs, ss, hs) w (total, (i : Int), row) = some (.inl (fop .add .f32 total y, ((i + 1 : Nat) : Int), divX a b ss hs row c)) := by
 have hn2 := m.n2
 have hk2 := m.k2
 have hlh := m.lh
 have hsum := rounds_forS (f := impl_LogChanceOf_B2 ((a : Int), (b : Int), fs, ss, hs) w (total, ((i : Nat) : Int), row)) (fun p z => (z, ((p : Nat) : Int))) (fun p z => fop .add .f32 z (fop .mul .f32 (row.getD p 0) (hs.getD (p * b + c) 0))) id (n := a) (fun p z => z = letF b hs row c p)
  (fun p z hp hz => ⟨by
   obtain ⟨e1, e2⟩ := cellM (a := a) (b := b) (by omega) (by omega) hp hc2
   have hL : lenI row = (a : Int) := by unfold lenI; rw [hl]
   have j2 := idxN (i := p * b + c) (n := hs.length) (by omega)
   unfold impl_LogChanceOf_B2 impl_Model_show
   simp only [hL, ltN hp, cond_true, Int.toNat_natCast, nextN hp (show a ≤ 4294967296 by omega), hc, e1]
   rw [guard_pos (idxN hp), guard_pos j2]
   rfl, by rw [hz]; rfl⟩)
  (fun z _ => by
   have hL : lenI row = (a : Int) := by unfold lenI; rw [hl]
   unfold impl_LogChanceOf_B2
   simp only [hL, geN (Nat.le_refl _), cond_false]; rfl) a 0 0 (by omega) rfl
 simp only [Int.natCast_zero] at hsum
 have hdiv := loop_mapX (f := impl_LogChanceOf_B1 (letF b hs row c a) (nextF a b ss hs row c)) (nextF a b ss hs row c) (fun x => fop .quo .f32 x (letF b hs row c a))
  (fun j out hj ho hoj => by
   have j1 := idxN (i := j) (n := out.length) (by omega)
   unfold impl_LogChanceOf_B1
   simp only [ltN hj, cond_true, Int.toNat_natCast, nextN hj (show (nextF a b ss hs row c).length ≤ 4294967296 by rw [nextF_len]; omega), hoj]
   rw [guard_pos j1])
  (fun out _ => by
   unfold impl_LogChanceOf_B1
   simp only [geN (Nat.le_refl _), cond_false])
 unfold impl_LogChanceOf_B3
 simp only [ltN hi, cond_true, Int.toNat_natCast, guard_pos (idxN hi), hsum.1, id, Option.bind_some, hsum.2, hc, nextN hi (show w.length ≤ 4294967296 by omega), hd, Bool.not_true, cond_false, implNext m hc2 hl, hdiv, hy]
 rfl

theorem divX_get {row : List Nat} {c j : Nat} (hj : j < a) : (divX a b ss hs row c).getD j 0 = fop .quo .f32 ((nextF a b ss hs row c).getD j 0) (letF b hs row c a) := by
 have hl := nextF_len a b ss hs row c
 unfold divX
 rw [List.getD_eq_getElem?_getD, List.getElem?_map, List.getElem?_eq_getElem (by omega), List.getD_eq_getElem?_getD, List.getElem?_eq_getElem (by omega)]
 rfl

theorem rg_of_w {x : Nat} (hx : x ≤ 2130706432) (h1 : 1 / 64 ≤ wS x) (h2 : wS x ≤ 2) : Rg 143 150 x := by
 rw [wS_V hx] at h1 h2
 have hU := US_pos
 have e1 : US = 64 * ((2 ^ 143 : Nat) : Rat) := by
  rw [V149, show (2 : Nat) ^ 149 = 64 * 2 ^ 143 by decide, Rat.natCast_mul]; rfl
 have e2 : ((2 ^ 150 : Nat) : Rat) = 2 * US := by
  rw [V149, show (2 : Nat) ^ 150 = 2 * 2 ^ 149 by decide, Rat.natCast_mul]; rfl
 refine ⟨hx, Rat.natCast_le_natCast.1 ?_, Rat.natCast_le_natCast.1 ?_⟩
 ·generalize ((V32 x : Nat) : Rat) = v at *
  have p := Rat.mul_le_mul_of_nonneg_right h1 (Rat.le_of_lt hU)
  have e : v / US * US = v := by grind
  rw [e] at p
  generalize ((2 ^ 143 : Nat) : Rat) = z at *
  grind
 ·rw [e2]
  generalize ((V32 x : Nat) : Rat) = v at *
  have p := Rat.mul_le_mul_of_nonneg_right h2 (Rat.le_of_lt hU)
  have e : v / US * US = v := by grind
  rw [e] at p
  exact p

end

end Go.Proofs


/-
 What a round of LogChanceOf does to its row.
-/
namespace Go.Proofs
open Go.Ide Go.IntWalk

theorem sumQ_le {f g : Nat → Rat} : ∀ n, (∀ i, i < n → f i ≤ g i) → sumQ f n ≤ sumQ g n
 | 0, _ => Rat.le_refl
 | n + 1, h => by
  have h1 := sumQ_le n (fun i hi => h i (by omega))
  have h2 := h n (by omega)
  show sumQ f n + f n ≤ sumQ g n + g n
  grind

section
variable {a b : Nat} {fs ss hs : List Nat}

theorem row_step (g : DrawnG a b fs ss hs) {row : List Nat} {c : Nat} (hc : c < b) (hr : RowRg a 143 150 row) (hsum : Nq 228 (sumQ (fun p => wS (row.getD p 0)) a) 1) :
  Rg 137 154 (letF b hs row c a) ∧ 1 / 64 ≤ wS (letF b hs row c a) ∧ wS (letF b hs row c a) ≤ 100001 / 100000 ∧ RowRg a 143 150 (divX a b ss hs row c) ∧ Nq 228 (sumQ (fun p => wS ((divX a b ss hs row c).getD p 0)) a) 1 ∧
  ∀ j, j < a → Nq 24 (wS ((divX a b ss hs row c).getD j 0) * wS (letF b hs row c a)) (wS ((nextF a b ss hs row c).getD j 0)) := by
 have d := g.d
 have ls := d.m.ls
 have lh := d.m.lh
 obtain ⟨r1, n1⟩ := let_nq d hc hr (by omega) (by omega) (by omega)
 have hh : ∀ p, p < a → 1 / 33 ≤ wS (hs.getD (p * b + c) 0) ∧ wS (hs.getD (p * b + c) 0) ≤ 1 := fun p hp => by
  have e := rowF_get lh hp hc
  have := rowG_lo (g.gh p hp) (i := c) (by rw [rowF_len lh hp]; exact hc) (by rw [e]; exact d.eh p c hp hc)
  rw [e] at this
  exact this
 have hss : ∀ p j, p < a → j < a → 1 / 33 ≤ wS (ss.getD (p * a + j) 0) ∧ wS (ss.getD (p * a + j) 0) ≤ 1 := fun p j hp hj => by
  have e := rowF_get ls hp hj
  have := rowG_lo (g.gs p hp) (i := j) (by rw [rowF_len ls hp]; exact hj) (by rw [e]; exact d.es p j hp hj)
  rw [e] at this
  exact this
 have hrn : ∀ p, p < a → 0 ≤ wS (row.getD p 0) := fun p hp => wS_nn (hr p hp).fin
 have hX0 : ∀ p, p < a → 0 ≤ wS (row.getD p 0) * wS (hs.getD (p * b + c) 0) := fun p hp => Rat.mul_nonneg (hrn p hp) (by have := (hh p hp).1; grind)
 have x1 : sumQ (fun p => wS (row.getD p 0)) a * (1 / 33) ≤ sumQ (fun p => wS (row.getD p 0) * wS (hs.getD (p * b + c) 0)) a := by
  rw [sumQ_mul]
  exact sumQ_le a fun p hp => Rat.mul_le_mul_of_nonneg_left (hh p hp).1 (hrn p hp)
 have x2 : sumQ (fun p => wS (row.getD p 0) * wS (hs.getD (p * b + c) 0)) a ≤ sumQ (fun p => wS (row.getD p 0)) a :=
  sumQ_le a fun p hp => by have := Rat.mul_le_mul_of_nonneg_left (hh p hp).2 (hrn p hp); grind
 have hS0 : 0 ≤ wS (letF b hs row c a) := wS_nn r1.fin
 -- columns
 have ycol := fun j (hj : j < a) => next_nq d hc hr (by omega) (by omega) (by omega) hj
 have y1 : ∀ j, j < a → sumQ (fun p => wS (row.getD p 0) * wS (hs.getD (p * b + c) 0)) a * (1 / 33) ≤ sumQ (fun p => wS (row.getD p 0) * wS (hs.getD (p * b + c) 0) * wS (ss.getD (p * a + j) 0)) a := fun j hj => by
  rw [sumQ_mul]
  exact sumQ_le a fun p hp => Rat.mul_le_mul_of_nonneg_left (hss p j hp hj).1 (hX0 p hp)
 have y2 : ∀ j, j < a → sumQ (fun p => wS (row.getD p 0) * wS (hs.getD (p * b + c) 0) * wS (ss.getD (p * a + j) 0)) a ≤ sumQ (fun p => wS (row.getD p 0) * wS (hs.getD (p * b + c) 0)) a := fun j hj =>
  sumQ_le a fun p hp => by have := Rat.mul_le_mul_of_nonneg_left (hss p j hp hj).2 (hX0 p hp); grind
 have ysum : Nq 72 (sumQ (fun j => sumQ (fun p => wS (row.getD p 0) * wS (hs.getD (p * b + c) 0) * wS (ss.getD (p * a + j) 0)) a) a) (sumQ (fun p => wS (row.getD p 0) * wS (hs.getD (p * b + c) 0)) a) := by
  rw [sumQ_swap (fun j p => wS (row.getD p 0) * wS (hs.getD (p * b + c) 0) * wS (ss.getD (p * a + j) 0)) a a]
  refine sumQ_near a fun p hp => ?_
  have q := (rowG_sum (g.gs p hp) (rowF_len ls hp) (fun i hi => by rw [rowF_get ls hp hi]; exact d.es p i hp hi)).mulr (hX0 p hp)
  rw [sumQ_mul] at q
  rw [sumQ_congr a (g := fun j => wS ((rowF ss a p).getD j 0) * (wS (row.getD p 0) * wS (hs.getD (p * b + c) 0))) fun j hj => by rw [rowF_get ls hp hj]; grind]
  have e : (1 : Rat) * (wS (row.getD p 0) * wS (hs.getD (p * b + c) 0)) = wS (row.getD p 0) * wS (hs.getD (p * b + c) 0) := by grind
  rw [e] at q
  exact q
 have t228 := rp_tight 228 (by omega)
 rw [show ((228 : Nat) : Rat) = 228 from rfl] at t228
 have t60 := rp_tight 60 (by omega)
 rw [show ((60 : Nat) : Rat) = 60 from rfl] at t60
 have t96 := rp_tight 96 (by omega)
 rw [show ((96 : Nat) : Rat) = 96 from rfl] at t96
 generalize hSg : wS (letF b hs row c a) = S at *
 generalize hXg : sumQ (fun p => wS (row.getD p 0) * wS (hs.getD (p * b + c) 0)) a = X at *
 have hR0 : 0 ≤ sumQ (fun p => wS (row.getD p 0)) a := sumQ_nn a hrn
 generalize sumQ (fun p => wS (row.getD p 0)) a = R at *
 obtain ⟨s1, s2⟩ := hsum
 obtain ⟨n2, n3⟩ := n1
 have hXn : 0 ≤ X := by grind
 have k1 := Rat.mul_le_mul_of_nonneg_left t228 hR0
 have k2 := Rat.mul_le_mul_of_nonneg_left t60 hXn
 have k3 := Rat.mul_le_mul_of_nonneg_left t60 hS0
 have b1 : 1 / 64 ≤ S := by grind
 have b2 : S ≤ 100001 / 100000 := by grind
 have hq : ∀ j, j < a → Nq 24 (wS ((divX a b ss hs row c).getD j 0) * S) (wS ((nextF a b ss hs row c).getD j 0)) := fun j hj => by
  have hn := next_rg d hc hr (by omega) (by omega) (by omega) j hj
  have := quo_nq hn r1 (by omega) (by omega) (by omega)
  rw [divX_get hj, ← hSg]
  exact this
 have hfin : ∀ j, j < a → (divX a b ss hs row c).getD j 0 ≤ 2130706432 := fun j hj => by
  have hn := next_rg d hc hr (by omega) (by omega) (by omega) j hj
  have := (quo_rg hn r1 (by omega) (by omega) (by omega)).1
  rw [divX_get hj]
  exact this
 have hq2 : ∀ j, j < a → Nq 96 (wS ((divX a b ss hs row c).getD j 0) * S) (sumQ (fun p => wS (row.getD p 0) * wS (hs.getD (p * b + c) 0) * wS (ss.getD (p * a + j) 0)) a) := fun j hj => (hq j hj).trans (ycol j hj)
 refine ⟨r1, b1, b2, fun j hj => ?_, ?_, hq⟩
 ·obtain ⟨z1, z2⟩ := hq2 j hj
  have z3 := y1 j hj
  have z4 := y2 j hj
  have w0 := wS_nn (hfin j hj)
  generalize sumQ (fun p => wS (row.getD p 0) * wS (hs.getD (p * b + c) 0) * wS (ss.getD (p * a + j) 0)) a = Y at *
  generalize hV : wS ((divX a b ss hs row c).getD j 0) = v at *
  have hY : 0 ≤ Y := by grind
  have u1 := Rat.mul_le_mul_of_nonneg_left t96 hY
  have u2 := Rat.mul_le_mul_of_nonneg_left t96 (Rat.mul_nonneg w0 hS0)
  refine rg_of_w (hfin j hj) ?_ ?_
  ·rw [hV]
   refine Rat.le_of_mul_le_mul_right (c := S) ?_ (by grind)
   grind
  ·rw [hV]
   refine Rat.le_of_mul_le_mul_right (c := S) ?_ (by grind)
   grind
 ·have q1 := sumQ_near a hq2
  rw [← sumQ_mul] at q1
  have q2 := (q1.trans ysum).trans ⟨n3, n2⟩
  refine Nq.cancel (c := S) ?_ (by grind)
  have e : (1 : Rat) * S = S := by grind
  rw [e]
  exact q2

end

end Go.Proofs


/-
 LogChanceOf: its exponential is near a product, and so are the rows.
-/
namespace Go.Proofs
open Go.Ide Go.IntWalk

section
variable {a b : Nat} {fs ss hs : List Nat}

theorem row_rel (g : DrawnG a b fs ss hs) {row r : List Nat} {c K lo hi : Nat} {P : Rat} (hc : c < b) (hr : RowRg a 143 150 row) (hsum : Nq 228 (sumQ (fun p => wS (row.getD p 0)) a) 1) (hrr : RowRg a lo hi r) (h1 : 39 ≤ lo) (h2 : lo ≤ hi) (h3 : hi ≤ 250) (hP : 0 ≤ P)
  (hK : ∀ j, j < a → Nq K (wS (row.getD j 0) * P) (wS (r.getD j 0))) : ∀ j, j < a → Nq (K + 168) (wS ((divX a b ss hs row c).getD j 0) * (P * wS (letF b hs row c a))) (wS ((nextF a b ss hs r c).getD j 0)) := fun j hj => by
 have d := g.d
 obtain ⟨_, _, _, _, _, q⟩ := row_step g hc hr hsum
 have e1 := (q j hj).mulr hP
 have e2 := (next_nq d hc hr (by omega) (by omega) (by omega) hj).mulr hP
 have e3 := next_nq d hc hrr h1 h2 h3 hj
 have e4 : Nq K (sumQ (fun p => wS (row.getD p 0) * wS (hs.getD (p * b + c) 0) * wS (ss.getD (p * a + j) 0)) a * P) (sumQ (fun p => wS (r.getD p 0) * wS (hs.getD (p * b + c) 0) * wS (ss.getD (p * a + j) 0)) a) := by
  rw [sumQ_mul]
  refine sumQ_near a fun p hp => ?_
  have x := (hK p hp).mulr (Rat.mul_nonneg (wS_nn (d.eh p c hp hc).fin) (wS_nn (d.es p j hp hj).fin))
  have f1 : wS (row.getD p 0) * P * (wS (hs.getD (p * b + c) 0) * wS (ss.getD (p * a + j) 0)) = wS (row.getD p 0) * wS (hs.getD (p * b + c) 0) * wS (ss.getD (p * a + j) 0) * P := by grind
  have f2 : wS (r.getD p 0) * (wS (hs.getD (p * b + c) 0) * wS (ss.getD (p * a + j) 0)) = wS (r.getD p 0) * wS (hs.getD (p * b + c) 0) * wS (ss.getD (p * a + j) 0) := by grind
  rw [f1, f2] at x
  exact x
 have all := ((e1.trans e2).trans e4).trans e3.symm
 have f : wS ((divX a b ss hs row c).getD j 0) * wS (letF b hs row c a) * P = wS ((divX a b ss hs row c).getD j 0) * (P * wS (letF b hs row c a)) := by grind
 rw [f] at all
 rw [show K + 168 = 24 + 72 + K + 72 by omega]
 exact all

theorem wS_zero : wS 0 = 0 := by
 rw [wS_V (by omega), V_zero, show ((0 : Nat) : Rat) = 0 from rfl]
 have := US_pos
 grind

theorem Ex_zero : Ex (0 / 256) = 1 := by decide +kernel

theorem logLoop (g : DrawnG a b fs ss hs) {w : List Int} (hw : Letters b w) (hwl : w.length ≤ 6) :
  ∃ z, rounds (impl_LogChanceOf_B3 ((a : Int), (b : Int), fs, ss, hs) w) ((0 : Nat), (0 : Int), fs) = some z ∧ ∃ (total : Nat) (row : List Nat) (P : Rat), z = .inl total ∧ FS total ∧ Bd 29 (wS total) ∧ 0 < P ∧ ((1 / 64 : Rat) ^ w.length ≤ P ∧ P ≤ (100001 / 100000 : Rat) ^ w.length) ∧ Nq (9448 * w.length) (Ex (wS total / 256)) P ∧
   Nq 228 (sumQ (fun p => wS (row.getD p 0)) a) 1 ∧ (∀ p, p < a → 0 ≤ wS (row.getD p 0)) ∧ ∀ j, j < a → Nq (168 * w.length) (wS (row.getD j 0) * P) (wS ((rowAt a b fs ss hs w w.length).getD j 0)) := by
 have d := g.d
 refine rounds_inv (fun m st => ∃ (i total : Nat) (row : List Nat) (P : Rat), m = w.length - i ∧ i ≤ w.length ∧ st = (total, (i : Int), row) ∧ row.length = a ∧ RowRg a 143 150 row ∧ FS total ∧ Bd (481 / 100 * (i : Rat)) (wS total) ∧ 0 < P ∧ ((1 / 64 : Rat) ^ i ≤ P ∧ P ≤ (100001 / 100000 : Rat) ^ i) ∧ Nq (9448 * i) (Ex (wS total / 256)) P ∧
   Nq 228 (sumQ (fun p => wS (row.getD p 0)) a) 1 ∧ ∀ j, j < a → Nq (168 * i) (wS (row.getD j 0) * P) (wS ((rowAt a b fs ss hs w i).getD j 0))) _ ?_ w.length ((0 : Nat), ((0 : Nat) : Int), fs)
  ⟨0, 0, fs, 1, by omega, by omega, rfl, d.m.lf, fun i hi => (d.ef i hi).mono (by omega) (by omega), FS_of (b := 1) (by omega) (by rw [V_zero]; omega) (by omega), by rw [wS_zero, show ((0 : Nat) : Rat) = 0 from rfl]; constructor <;> grind, by grind, by rw [Rat.pow_zero, Rat.pow_zero]; constructor <;> grind, by
   rw [wS_zero, Ex_zero]; exact Nq.refl (by grind), (rowG_sum g.gf d.m.lf d.ef).mono (sumQ_nn a fun p hp => wS_nn (d.ef p hp).fin) (by grind) (by omega), fun j hj => by
   have : wS (fs.getD j 0) * 1 = wS (fs.getD j 0) := by grind
   rw [this]; exact Nq.refl (wS_nn (d.ef j hj).fin)⟩
 rintro m st ⟨i, total, row, P, rfl, hi, rfl, hl, hr, hF, hB, hP, hPP, hE, hS, hK⟩
 have hi6 := natLe (show i ≤ 6 by omega)
 rw [show ((6 : Nat) : Rat) = 6 from rfl] at hi6
 have hi0 : (0 : Rat) ≤ (i : Rat) := natLe (Nat.zero_le i)
 by_cases h : i < w.length
 ·left
  obtain ⟨c, hc, hc2⟩ := hw i h
  obtain ⟨r1, b1, b2, r2, r3, _⟩ := row_step g hc2 hr hS
  obtain ⟨y, l1, l2, l3, l4⟩ := logOk (r1.fs (by omega)) r1.fin b1 (by grind)
  have hd : fgt .f32 (letF b hs row c a) 0 = true := by
   rw [fgt_V r1.fin (by omega), V_zero]
   have := r1.lo
   have := pow_pos2 137
   exact decide_eq_true (by omega)
  have hround := logRound (fs := fs) (total := total) d.m (by omega) h hc hc2 hl hd l1
  have hrel := row_rel g hc2 hr hS (fwd_rg d hw hwl i hi) (by omega) (by omega) (by omega) (Rat.le_of_lt hP) hK
  have hi5 := natLe (show i + 1 ≤ 6 by omega)
  rw [Rat.natCast_add, show ((6 : Nat) : Rat) = 6 from rfl, show ((1 : Nat) : Rat) = 1 from rfl] at hi5
  obtain ⟨B1, B2⟩ := hB
  obtain ⟨y1, y2⟩ := l3
  obtain ⟨a1, a2, a3⟩ := addS (e := 30) hF l2 (by grind) (by grind) (by grind) (by grind)
  have bt : Bd (1 / 8) (wS (fop .add .f32 total y) / 256) := ⟨by grind, by grind⟩
  have ba : Bd (1 / 8) (wS total / 256) := ⟨by grind, by grind⟩
  have bb : Bd (1 / 8) (wS y / 256) := ⟨by grind, by grind⟩
  have bab : Bd (1 / 8) (wS total / 256 + wS y / 256) := ⟨by grind, by grind⟩
  have n1 := Ex_lip (k := 6) (d := 1 / 70000000) bt bab ⟨by grind, by grind⟩ (by grind) (by rw [show ((6 : Nat) : Rat) = 6 from rfl]; grind)
  have n2 := (Ex_sum ba bb bab).symm
  have n3 := hE.mul l4 (Ex_nn ba) (Rat.le_of_lt hP) (Ex_nn bb) (by grind)
  have n4 := (n1.trans n2).trans n3
  refine ⟨w.length - (i + 1), _, by omega, hround, i + 1, _, _, P * wS (letF b hs row c a), rfl, by omega, rfl, ?_, r2, a1, ?_, Rat.mul_pos hP (by grind), ?_, ?_, r3, ?_⟩
  ·unfold divX; rw [List.length_map, nextF_len]
  ·rw [Rat.natCast_add, show ((1 : Nat) : Rat) = 1 from rfl]
   constructor <;> grind
  ·rw [Rat.pow_succ, Rat.pow_succ]
   obtain ⟨p1, p2⟩ := hPP
   have l0 : (0 : Rat) ≤ (1 / 64) ^ i := by
    have := ((show Bd (1 / 64) (1 / 64) from ⟨by grind, by grind⟩).pow i).1
    grind
   have z1 := Rat.mul_le_mul_of_nonneg_right p1 (show (0 : Rat) ≤ 1 / 64 by grind)
   have z2 := Rat.mul_le_mul_of_nonneg_left b1 (Rat.le_of_lt hP)
   have z3 := Rat.mul_le_mul_of_nonneg_right p2 (show (0 : Rat) ≤ 100001 / 100000 by grind)
   have z4 := Rat.mul_le_mul_of_nonneg_left b2 (Rat.le_of_lt hP)
   exact ⟨Rat.le_trans z1 z2, Rat.le_trans z4 z3⟩
  ·rw [show 9448 * (i + 1) = 256 * 6 + 512 + (9448 * i + 7400) by omega]
   exact n4
  ·intro j hj
   have := hrel j hj
   rw [show 168 * (i + 1) = 168 * i + 168 by omega]
   show Nq _ _ (wS ((nextF a b ss hs (rowAt a b fs ss hs w i) (w.getD i 0).toNat).getD j 0))
   rw [hc, Int.toNat_natCast]
   exact this
 ·right
  have : i = w.length := by omega
  subst this
  refine ⟨.inl total, ?_, total, row, P, rfl, hF, ?_, hP, hPP, hE, hS, fun p hp => wS_nn (hr p hp).fin, hK⟩
  ·unfold impl_LogChanceOf_B3
   simp only [lenI, geN (Nat.le_refl _), cond_false]
  ·obtain ⟨B1, B2⟩ := hB
   constructor <;> grind

end

end Go.Proofs


/-
 The exponential of LogChanceOf is near the chance.
-/
namespace Go.Proofs
open Go.Ide Go.IntWalk

theorem powB {n : Nat} (h : n ≤ 6) : 1 / 68719476736 ≤ (1 / 64 : Rat) ^ n ∧ (100001 / 100000 : Rat) ^ n ≤ 10001 / 10000 := by
 have hk : n = 0 ∨ n = 1 ∨ n = 2 ∨ n = 3 ∨ n = 4 ∨ n = 5 ∨ n = 6 := by omega
 rcases hk with rfl | rfl | rfl | rfl | rfl | rfl | rfl <;> constructor <;> decide +kernel

section
variable {a b : Nat} {fs ss hs : List Nat}

theorem expChance (g : DrawnG a b fs ss hs) {w : List Int} (hw : Letters b w) (hwl : w.length ≤ 6) :
  ∃ (total r : Nat), rounds (impl_LogChanceOf_B3 ((a : Int), (b : Int), fs, ss, hs) w) ((0 : Nat), (0 : Int), fs) = some (.inl total) ∧ FS total ∧ spec_ExpNumber total = some r ∧ FS r ∧
   Apx (7 / 10000 * wS (sumF (rowAt a b fs ss hs w w.length) a)) (wS r) (wS (sumF (rowAt a b fs ss hs w w.length) a)) ∧
   sumF (rowAt a b fs ss hs w w.length) a ≤ 2130706432 ∧ 1 / 100000000000 ≤ wS (sumF (rowAt a b fs ss hs w w.length) a) ∧ wS (sumF (rowAt a b fs ss hs w w.length) a) ≤ 10002 / 10000 := by
 have d := g.d
 have a1 := d.m.n1
 have a4 := d.a4
 obtain ⟨z, h1, total, row, P, rfl, hF, hB, hP, ⟨p1, p2⟩, hE, hS, hrn, hK⟩ := logLoop g hw hwl
 have hrg := fwd_rg d hw hwl w.length (Nat.le_refl _)
 obtain ⟨l1, l2⟩ := powB hwl
 -- the chance
 have hC := sum_nq (f := fun n => sumF (rowAt a b fs ss hs w w.length) n) (lo := 143 - 12 * w.length) (hi := 149 + 4 * w.length) (by omega) rfl (fun p => rfl) a hrg (by omega)
 have hCf := (sum_rg (f := fun n => sumF (rowAt a b fs ss hs w w.length) n) (lo := 143 - 12 * w.length) (hi := 149 + 4 * w.length) (by omega) rfl (fun p => rfl) a hrg (by omega)).1
 have s1 := sumQ_near a hK
 rw [← sumQ_mul] at s1
 have s2 := hS.mulr (Rat.le_of_lt hP)
 have e : (1 : Rat) * P = P := by grind
 rw [e] at s2
 have s3 := (hC.trans s1.symm).trans s2
 have hC0 : 0 ≤ wS (sumF (rowAt a b fs ss hs w w.length) a) := wS_nn hCf
 have hCP : Nq 1300 (wS (sumF (rowAt a b fs ss hs w w.length) a)) P := s3.mono hC0 (Rat.le_of_lt hP) (by omega)
 have bt : Bd (1 / 8) (wS total / 256) := by obtain ⟨x1, x2⟩ := hB; constructor <;> grind
 have hE0 := Ex_nn bt
 have hEP : Nq 56700 (Ex (wS total / 256)) P := hE.mono hE0 (Rat.le_of_lt hP) (by omega)
 have t1 := rp_tight 56700 (by omega)
 rw [show ((56700 : Nat) : Rat) = 56700 from rfl] at t1
 have t2 := rp_tight 1300 (by omega)
 rw [show ((1300 : Nat) : Rat) = 1300 from rfl] at t2
 have hEC := hEP.trans hCP.symm
 have t3 := rp_tight (56700 + 1300) (by omega)
 rw [show ((56700 + 1300 : Nat) : Rat) = 58000 from rfl] at t3
 generalize hCg : wS (sumF (rowAt a b fs ss hs w w.length) a) = C at *
 obtain ⟨c1, c2⟩ := hCP
 obtain ⟨c3, c4⟩ := hEP
 obtain ⟨c5, c6⟩ := hEC
 have u1 := Rat.mul_le_mul_of_nonneg_left t1 (Rat.le_of_lt hP)
 have u2 := Rat.mul_le_mul_of_nonneg_left t1 hE0
 have u3 := Rat.mul_le_mul_of_nonneg_left t2 (Rat.le_of_lt hP)
 have u4 := Rat.mul_le_mul_of_nonneg_left t2 hC0
 have u5 := Rat.mul_le_mul_of_nonneg_left t3 hC0
 have u6 := Rat.mul_le_mul_of_nonneg_left t3 hE0
 obtain ⟨y1, y2⟩ := hB
 obtain ⟨r, r1, r2, r3, r4⟩ := expOk hF ⟨by grind, by grind⟩ (show 1 / 1099511627776 ≤ Ex (wS total / 256) by grind) (show Ex (wS total / 256) ≤ 2 by grind)
 have eE : sqn 8 (T6 (wS total / 256)) = Ex (wS total / 256) := rfl
 rw [eE] at r3 r4
 generalize Ex (wS total / 256) = E at *
 refine ⟨total, r, h1, hF, r1, r2, ⟨?_, ?_⟩, hCf, ?_, ?_⟩ <;> grind

end

end Go.Proofs


/-
 Gaps that are less than a thousandth.
-/
namespace Go.Proofs
open Go.Ide Go.IntWalk

theorem milli_w : FD 4562254508917369340 ∧ wD 4562254508917369340 = 1152921504606847 / 1152921504606846976 :=
 ⟨litFD (by omega), by rw [litD (c := 1152921504606847) (d := 1152921504606846976) (by omega) (by omega) (by decide +kernel)]; rfl⟩

theorem gap_le {x y : Nat} {e : Rat} (hx : FD x) (hy : FD y) (he1 : 1 / 1152921504606846976 ≤ e) (he2 : e ≤ 67108864) (h : Apx e (wD x) (wD y)) : ∃ z, laws_b10Gap x y = some z ∧ FD z ∧ wD z ≤ e + e / 4503599627370496 := by
 obtain ⟨h1, h2⟩ := h
 unfold laws_b10Gap
 cases flt .f64 x y with
 | true =>
  obtain ⟨s1, s2, s3⟩ := subD (e := e) hy hx he1 he2 (by grind) (by grind)
  exact ⟨_, rfl, s1, by grind⟩
 | false =>
  obtain ⟨s1, s2, s3⟩ := subD (e := e) hx hy he1 he2 (by grind) (by grind)
  exact ⟨_, rfl, s1, by grind⟩

theorem gap_rel {x y : Nat} (hx : FD x) (hy : FD y) (h : Apx (9 / 10000 * wD y) (wD x) (wD y)) (l : 1 / 1000000000000 ≤ wD y) (u : wD y ≤ 2) :
  ∃ z, laws_b10Gap x y = some z ∧ fgt .f64 z (fop .mul .f64 4562254508917369340 y) = false := by
 obtain ⟨z, e1, f1, b1⟩ := gap_le (e := 9 / 10000 * wD y) hx hy (by grind) (by grind) h
 have hm := milli_w.2
 obtain ⟨m1, m2, m3⟩ := mulD (e := wD y) milli_w.1 hy (by grind) (by grind) (by rw [hm]; grind) (by rw [hm]; grind)
 rw [hm] at m2 m3
 refine ⟨z, e1, ?_⟩
 rw [fgt_w f1 m1]
 exact decide_eq_false (by grind)

theorem gap_one {x : Nat} (hx : FD x) (h : Apx (9 / 10000) (wD x) 1) :
  ∃ z, laws_b10Gap x 4607182418800017408 = some z ∧ fgt .f64 z 4562254508917369340 = false ∧ flt .f64 z 4562254508917369340 = true := by
 obtain ⟨z, e1, f1, b1⟩ := gap_le (e := 9 / 10000) hx one_F (by grind) (by grind) (by rw [one_w]; exact h)
 have hm := milli_w.2
 refine ⟨z, e1, ?_, ?_⟩
 ·rw [fgt_w f1 milli_w.1, hm]
  exact decide_eq_false (by grind)
 ·rw [flt_w f1 milli_w.1, hm]
  exact decide_eq_true (by grind)

end Go.Proofs
