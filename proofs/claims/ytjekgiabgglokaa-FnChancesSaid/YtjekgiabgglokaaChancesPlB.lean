import Derived.Test.YtjekgiabgglokaaChancesPlA
set_option linter.unusedVariables false
set_option linter.unusedSimpArgs false
set_option linter.unusedSectionVars false

/-
 A row before another, as rational numbers.
-/
namespace Go.Proofs
open Go.Ide Go.IntWalk

section
variable {a b : Nat} {fs ss hs : List Nat}

theorem prev_nq (d : Drawn a b fs ss hs) {row : List Nat} {c lo hi : Nat} (hc : c < b) (hr : RowRg a lo hi row) (h1 : 39 ≤ lo) (h2 : lo ≤ hi) (h3 : hi ≤ 250) {i : Nat} (hi' : i < a) :
  Nq 72 (wS ((prevB a b ss hs row c).getD i 0)) (sumQ (fun p => wS (hs.getD (i * b + c) 0) * wS (ss.getD (i * a + p) 0) * wS (row.getD p 0)) a) := by
 have a4 := d.a4
 obtain ⟨r, n⟩ := prev_rg d hc hr h1 h2 h3
 have q := nq_of_near (n i hi')
 rw [Rat.natCast_mul, Rat.natCast_mul, cast149] at q
 have hU := US_pos
 have cs := castSum (fun p => V32 (hs.getD (i * b + c) 0) * V32 (ss.getD (i * a + p) 0) * V32 (row.getD p 0)) a
 have e : sumQ (fun p => ((V32 (hs.getD (i * b + c) 0) * V32 (ss.getD (i * a + p) 0) * V32 (row.getD p 0) : Nat) : Rat) / US) a = sumQ (fun p => wS (hs.getD (i * b + c) 0) * wS (ss.getD (i * a + p) 0) * wS (row.getD p 0)) a * (US * US) := by
  rw [sumQ_mul]
  refine sumQ_congr a fun p hp => ?_
  rw [wS_V (d.eh i c hi' hc).fin, wS_V (d.es i p hi' hp).fin, wS_V (hr p hp).fin, Rat.natCast_mul, Rat.natCast_mul]
  grind
 rw [e] at cs
 have w := wS_V (r i hi').fin
 have p0 := wS_nn (r i hi').fin
 have p1 := sumQ_nn (f := fun p => wS (hs.getD (i * b + c) 0) * wS (ss.getD (i * a + p) 0) * wS (row.getD p 0)) a fun p hp => Rat.mul_nonneg (Rat.mul_nonneg (wS_nn (d.eh i c hi' hc).fin) (wS_nn (d.es i p hi' hp).fin)) (wS_nn (hr p hp).fin)
 generalize sumQ (fun p => wS (hs.getD (i * b + c) 0) * wS (ss.getD (i * a + p) 0) * wS (row.getD p 0)) a = S at *
 generalize ((sumN (fun p => V32 (hs.getD (i * b + c) 0) * V32 (ss.getD (i * a + p) 0) * V32 (row.getD p 0)) a : Nat) : Rat) = T at *
 generalize ((V32 ((prevB a b ss hs row c).getD i 0) : Nat) : Rat) = v at *
 have m : Nq (12 * (a + 2)) (wS ((prevB a b ss hs row c).getD i 0)) S := by
  refine Nq.cancel (c := US * US * US) ?_ (Rat.mul_pos (Rat.mul_pos hU hU) hU)
  rw [w]
  generalize US = U at *
  have e1 : v / U * (U * U * U) = v * (U * U) := by grind
  have e2 : S * (U * U * U) = T := by grind
  rw [e1, e2]
  exact q
 exact m.mono p0 p1 (by omega)

end

end Go.Proofs


/-
 Forward times backward is the same at a place and the next.
-/
namespace Go.Proofs
open Go.Ide Go.IntWalk

section
variable {a b : Nat} {fs ss hs : List Nat}

theorem inv_step (d : Drawn a b fs ss hs) {f g' : List Nat} {c lo hi lo' hi' : Nat} (hc : c < b) (hf : RowRg a lo hi f) (h1 : 39 ≤ lo) (h2 : lo ≤ hi) (h3 : hi ≤ 250) (hg : RowRg a lo' hi' g') (h1' : 39 ≤ lo') (h2' : lo' ≤ hi') (h3' : hi' ≤ 250) :
  Nq 144 (sumQ (fun i => wS (f.getD i 0) * wS ((prevB a b ss hs g' c).getD i 0)) a) (sumQ (fun j => wS ((nextF a b ss hs f c).getD j 0) * wS (g'.getD j 0)) a) := by
 have q1 : Nq 72 (sumQ (fun i => wS (f.getD i 0) * wS ((prevB a b ss hs g' c).getD i 0)) a) (sumQ (fun i => sumQ (fun j => wS (f.getD i 0) * wS (hs.getD (i * b + c) 0) * wS (ss.getD (i * a + j) 0) * wS (g'.getD j 0)) a) a) := by
  refine sumQ_near a fun i hi => ?_
  have x := (prev_nq d hc hg h1' h2' h3' hi).mulr (wS_nn (hf i hi).fin)
  rw [sumQ_mul] at x
  rw [sumQ_congr a (g := fun j => wS (hs.getD (i * b + c) 0) * wS (ss.getD (i * a + j) 0) * wS (g'.getD j 0) * wS (f.getD i 0)) fun j hj => by grind]
  have e : wS (f.getD i 0) * wS ((prevB a b ss hs g' c).getD i 0) = wS ((prevB a b ss hs g' c).getD i 0) * wS (f.getD i 0) := by grind
  rw [e]
  exact x
 rw [sumQ_swap (fun i j => wS (f.getD i 0) * wS (hs.getD (i * b + c) 0) * wS (ss.getD (i * a + j) 0) * wS (g'.getD j 0)) a a] at q1
 have q2 : Nq 72 (sumQ (fun j => wS ((nextF a b ss hs f c).getD j 0) * wS (g'.getD j 0)) a) (sumQ (fun j => sumQ (fun i => wS (f.getD i 0) * wS (hs.getD (i * b + c) 0) * wS (ss.getD (i * a + j) 0) * wS (g'.getD j 0)) a) a) := by
  refine sumQ_near a fun j hj => ?_
  have x := (next_nq d hc hf h1 h2 h3 hj).mulr (wS_nn (hg j hj).fin)
  rw [sumQ_mul] at x
  exact x
 exact q1.trans q2.symm

end

end Go.Proofs


/-
 Forward times backward is near the chance at each place.
-/
namespace Go.Proofs
open Go.Ide Go.IntWalk

theorem wS_one : wS 1065353216 = 1 := by
 rw [wS_V (by omega), V_one, cast149]
 have := US_pos
 grind

section
variable {a b : Nat} {fs ss hs : List Nat}

theorem fb_near (d : Drawn a b fs ss hs) {w : List Int} (hw : Letters b w) (hl : w.length ≤ 6) : ∀ k, k ≤ w.length →
  Nq (144 * k) (sumQ (fun i => wS ((rowAt a b fs ss hs w (w.length - k)).getD i 0) * wS ((rowE a b ss hs w k).getD i 0)) a) (sumQ (fun i => wS ((rowAt a b fs ss hs w w.length).getD i 0)) a)
 | 0, _ => by
  have hf := fwd_rg d hw hl w.length (Nat.le_refl _)
  have e : sumQ (fun i => wS ((rowAt a b fs ss hs w (w.length - 0)).getD i 0) * wS ((rowE a b ss hs w 0).getD i 0)) a = sumQ (fun i => wS ((rowAt a b fs ss hs w w.length).getD i 0)) a := by
   refine sumQ_congr a fun i hi => ?_
   have h1 : (rowE a b ss hs w 0).getD i 0 = 1065353216 := by rw [rowE, List.getD_eq_getElem?_getD, List.getElem?_replicate, if_pos hi]; rfl
   rw [h1, wS_one, Nat.sub_zero]
   grind
  rw [e]
  exact Nq.refl (sumQ_nn a fun i hi => wS_nn (hf i hi).fin)
 | k + 1, hk => by
  have ih := fb_near d hw hl k (by omega)
  obtain ⟨c, hc, hc2⟩ := hw (w.length - (k + 1)) (by omega)
  have hf := fwd_rg d hw hl (w.length - (k + 1)) (by omega)
  have hg := bwd_rg d hw hl k (by omega)
  have st := inv_step d hc2 hf (by omega) (by omega) (by omega) hg (by omega) (by omega) (by omega)
  have e1 : rowE a b ss hs w (k + 1) = prevB a b ss hs (rowE a b ss hs w k) c := by rw [rowE, hc, Int.toNat_natCast]
  have e2 : rowAt a b fs ss hs w (w.length - k) = nextF a b ss hs (rowAt a b fs ss hs w (w.length - (k + 1))) c := by
   rw [show w.length - k = (w.length - (k + 1)) + 1 by omega, rowAt, hc, Int.toNat_natCast]
  rw [e1]
  rw [e2] at ih
  rw [show 144 * (k + 1) = 144 + 144 * k by omega]
  exact st.trans ih

end

end Go.Proofs


/-
 Sums of floats of 64 bits that are not below nought.
-/
namespace Go.Proofs
open Go.Ide Go.IntWalk

theorem sum64 {f t : Nat → Nat} {e : Rat} (h0 : f 0 = 0) (hs : ∀ p, f (p + 1) = fop .add .f64 (f p) (t p)) (he1 : 1 / 1152921504606846976 ≤ e) (he2 : e ≤ 4) : ∀ n, n ≤ 20 → (∀ p, p < n → FD (t p) ∧ 0 ≤ wD (t p)) → sumQ (fun p => wD (t p)) n ≤ e / 2 →
  FD (f n) ∧ Apx ((n : Rat) * e / 4503599627370496) (wD (f n)) (sumQ (fun p => wD (t p)) n)
 | 0, _, _, _ => by
  rw [h0]
  refine ⟨w0.1, ?_⟩
  rw [w0.2, show ((0 : Nat) : Rat) = 0 from rfl]
  show Apx _ 0 0
  constructor <;> grind
 | n + 1, hn, ht, hb => by
  have t1 := ht n (by omega)
  have hb' : sumQ (fun p => wD (t p)) n + wD (t n) ≤ e / 2 := hb
  obtain ⟨f1, f2, f3⟩ := sum64 h0 hs he1 he2 n (by omega) (fun p hp => ht p (by omega)) (by have := t1.2; grind)
  have s0 : 0 ≤ sumQ (fun p => wD (t p)) n := sumQ_nn n fun p hp => (ht p (by omega)).2
  have hnc := natLe (show n ≤ 20 by omega)
  rw [show ((20 : Nat) : Rat) = 20 from rfl] at hnc
  have hn0 : (0 : Rat) ≤ (n : Rat) := natLe (Nat.zero_le n)
  have ne := Rat.mul_le_mul_of_nonneg_right hnc (show 0 ≤ e by grind)
  have ne0 := Rat.mul_nonneg hn0 (show 0 ≤ e by grind)
  obtain ⟨a1, a2, a3⟩ := addD (e := e) f1 t1.1 he1 (by grind) (by have := t1.2; grind) (by grind)
  rw [hs]
  refine ⟨a1, ?_⟩
  have es : sumQ (fun p => wD (t p)) (n + 1) = sumQ (fun p => wD (t p)) n + wD (t n) := rfl
  rw [es, Rat.natCast_add, show ((1 : Nat) : Rat) = 1 from rfl]
  constructor <;> grind

end Go.Proofs


/-
 What the program's functions of chances answer at drawn models.
-/
namespace Go.Proofs
open Go.Ide Go.IntWalk

theorem catN_all {xs : List (List Nat)} {c : Nat} (h : ∀ i, i < xs.length → (xs.getD i []).length = c) : ∀ n, n ≤ xs.length → (catN xs n).length = n * c ∧ ∀ i j, i < n → j < c → (catN xs n).getD (i * c + j) 0 = (xs.getD i []).getD j 0
 | 0, _ => ⟨by simp [catN], fun i j hi => absurd hi (Nat.not_lt_zero i)⟩
 | n + 1, hn => by
  obtain ⟨h1, h2⟩ := catN_all h n (by omega)
  have h3 := h n (by omega)
  refine ⟨by rw [catN, List.length_append, h1, h3, Nat.succ_mul], fun i j hi hj => ?_⟩
  rw [catN, getD_appN, h1]
  by_cases e : i < n
  ·have : i * c + c ≤ n * c := by rw [← Nat.succ_mul]; exact Nat.mul_le_mul_right _ e
   rw [if_pos (by omega)]
   exact h2 i j e hj
  ·have : i = n := by omega
   subst this
   rw [if_neg (by omega), Nat.add_sub_cancel_left]

section
variable {a b : Nat} {fs ss hs : List Nat}

theorem okW (d : Drawn a b fs ss hs) {w : List Int} (hw : Letters b w) (hwl : w.length ≤ 12) : okMWord (a : Int) (b : Int) fs ss hs w = true := by
 have k2 := d.m.k2
 have k1 := d.m.k1
 unfold okMWord
 rw [d.ok, wsubI (by omega)]
 simp only [Bool.true_and, Bool.and_eq_true, decide_eq_true_eq, lenI]
 refine ⟨allIn_iff.2 fun i hi => ?_, by omega⟩
 obtain ⟨x, hx, hx2⟩ := hw i hi
 omega

theorem chance_val (d : Drawn a b fs ss hs) {w : List Int} (hw : Letters b w) (hwl : w.length ≤ 12) : impl_ChanceOf ((a : Int), (b : Int), fs, ss, hs) w = some (sumF (rowAt a b fs ss hs w w.length) a, true) := by
 have m := d.m
 have hn2 := m.n2
 have hlen := rowAt_len m w w.length
 have e : (rowsF a b fs ss hs w).getD w.length [] = rowAt a b fs ss hs w w.length := rows_at _ _
 have hg : (0 : Int) ≤ lenI w ∧ lenI w < lenI (rowsF a b fs ss hs w) := by
  simp only [lenI, rowsF, List.length_map, List.length_range]; omega
 have et : (lenI w).toNat = w.length := by simp [lenI]
 have hb := sumF_bd (xs := rowAt a b fs ss hs w w.length) (K := 127 + 5 * w.length) (by omega) (fun i hi => rowAt_bd m hw hwl _ (Nat.le_refl _) i (by omega)) _ (Nat.le_refl _) (by omega)
 unfold impl_ChanceOf impl_Model_chance
 simp only [implMWord (w := w) (by omega), okW d hw hwl, Bool.not_true, cond_false, implForward m hw hwl, Option.bind_some, guard_pos hg, et, e, implSum (xs := rowAt a b fs ss hs w w.length) (by omega), finite_bd hb (by omega) (by omega)]
 rw [hlen]

theorem log_val (g : DrawnG a b fs ss hs) {w : List Int} (hw : Letters b w) (hwl : w.length ≤ 6) :
  ∃ (total r : Nat), impl_LogChanceOf ((a : Int), (b : Int), fs, ss, hs) w = some (total, true) ∧ spec_ExpNumber total = some r ∧ FS r ∧
   Apx (7 / 10000 * wS (sumF (rowAt a b fs ss hs w w.length) a)) (wS r) (wS (sumF (rowAt a b fs ss hs w w.length) a)) ∧
   sumF (rowAt a b fs ss hs w w.length) a ≤ 2130706432 ∧ 1 / 100000000000 ≤ wS (sumF (rowAt a b fs ss hs w w.length) a) ∧ wS (sumF (rowAt a b fs ss hs w w.length) a) ≤ 10002 / 10000 := by
 obtain ⟨total, r, e1, e2, e3, e4⟩ := expChance g hw hwl
 refine ⟨total, r, ?_, e3, e4⟩
 have hlf := g.d.m.lf
 have hn2 := g.d.m.n2
 have hcl : slices_Clone fs = some fs := by
  unfold slices_Clone
  rw [guard_pos (by simp only [appMax]; omega)]
 have hfin : fin total = true := fin_bd e2.1 (by omega) (by omega)
 have hnum : impl_finite total = some (total, true) := by
  unfold impl_finite impl_IsFinite
  show (bif !(fin total) then _ else _) = _
  rw [hfin]; rfl
 unfold impl_LogChanceOf
 simp only [implMWord (w := w) (by omega), okW g.d hw (by omega), Option.bind_some, Bool.not_true, cond_false, hcl, e1, hnum]

theorem forward_val (d : Drawn a b fs ss hs) {w : List Int} (hw : Letters b w) (hwl : w.length ≤ 12) :
  ∃ l, impl_ForwardOf ((a : Int), (b : Int), fs, ss, hs) w = some (l, true) ∧ l.length = (w.length + 1) * a ∧ ∀ i j, i ≤ w.length → j < a → l.getD (i * a + j) 0 = (rowAt a b fs ss hs w i).getD j 0 := by
 have m := d.m
 have hn2 := m.n2
 have hl := rowsF_len (a := a) (b := b) (fs := fs) (ss := ss) (hs := hs) (w := w)
 have hr : ∀ i, i < (rowsF a b fs ss hs w).length → ((rowsF a b fs ss hs w).getD i []).length = a := fun i hi => by rw [rowsF_get (by omega), rowAt_len m]
 have hc : ∀ i, i < (rowsF a b fs ss hs w).length → ((rowsF a b fs ss hs w).getD i []).length ≤ 5 := fun i hi => by rw [hr i hi]; exact hn2
 have hcl := catN_len hc _ (Nat.le_refl _)
 have hfin : fins (catN (rowsF a b fs ss hs w) (rowsF a b fs ss hs w).length) = true := by
  refine allN_iff.2 fun j _ hj => allN_cat fin _ (fun i hi j hj => ?_) _ (Nat.le_refl _) j (by omega)
  rw [rowsF_get (by omega)] at hj ⊢
  rw [rowAt_len m] at hj
  exact fin_bd (rowAt_bd m hw hwl i (by omega) j hj) (by omega) (by omega)
 obtain ⟨q1, q2⟩ := catN_all hr _ (Nat.le_refl _)
 refine ⟨catN (rowsF a b fs ss hs w) (rowsF a b fs ss hs w).length, ?_, by rw [q1, hl], fun i j hi hj => by rw [q2 i j (by omega) hj, rowsF_get (by omega)]⟩
 unfold impl_ForwardOf
 simp only [implMWord (w := w) (by omega), okW d hw hwl, Bool.not_true, cond_false, implForward m hw hwl, Option.bind_some, implCat hc (by rw [hl]; omega) (by omega)]
 rw [implFinsL (by omega), hfin]
 rfl

theorem backward_val (d : Drawn a b fs ss hs) {w : List Int} (hw : Letters b w) (hwl : w.length ≤ 12) :
  ∃ l, impl_BackwardOf ((a : Int), (b : Int), fs, ss, hs) w = some (l, true) ∧ l.length = (w.length + 1) * a ∧ ∀ i j, i ≤ w.length → j < a → l.getD (i * a + j) 0 = (rowE a b ss hs w (w.length - i)).getD j 0 := by
 have m := d.m
 have hn2 := m.n2
 have hl := rowsB_len (a := a) (b := b) (ss := ss) (hs := hs) (w := w)
 have hr : ∀ i, i < (rowsB a b ss hs w).length → ((rowsB a b ss hs w).getD i []).length = a := fun i hi => by rw [rowsB_get (by omega), rowE_len]
 have hc : ∀ i, i < (rowsB a b ss hs w).length → ((rowsB a b ss hs w).getD i []).length ≤ 5 := fun i hi => by rw [hr i hi]; exact hn2
 have hcl := catN_len hc _ (Nat.le_refl _)
 have hfin : fins (catN (rowsB a b ss hs w) (rowsB a b ss hs w).length) = true := by
  refine allN_iff.2 fun j _ hj => allN_cat fin _ (fun i hi j hj => ?_) _ (Nat.le_refl _) j (by omega)
  rw [rowsB_get (by omega)] at hj ⊢
  rw [rowE_len] at hj
  exact fin_bd (rowE_bd m hw hwl _ (by omega) j hj) (by omega) (by omega)
 obtain ⟨q1, q2⟩ := catN_all hr _ (Nat.le_refl _)
 refine ⟨catN (rowsB a b ss hs w) (rowsB a b ss hs w).length, ?_, by rw [q1, hl], fun i j hi hj => by rw [q2 i j (by omega) hj, rowsB_get (by omega)]⟩
 unfold impl_BackwardOf
 simp only [implMWord (w := w) (by omega), okW d hw hwl, Bool.not_true, cond_false, implBack m hw hwl, Option.bind_some, implCat hc (by rw [hl]; omega) (by omega)]
 rw [implFinsL (by omega), hfin]
 rfl

def nextL (a b : Nat) (fs ss hs : List Nat) (w : List Int) : List Nat := (List.range b).map fun c => fop .quo .f32 (letF b hs (rowAt a b fs ss hs w w.length) c a) (sumF (rowAt a b fs ss hs w w.length) a)

theorem nextL_get {w : List Int} {c : Nat} (hc : c < b) : (nextL a b fs ss hs w).getD c 0 = fop .quo .f32 (letF b hs (rowAt a b fs ss hs w w.length) c a) (sumF (rowAt a b fs ss hs w w.length) a) := by
 simp [nextL, List.getD_eq_getElem?_getD, hc]

theorem next_val (d : Drawn a b fs ss hs) {w : List Int} (hw : Letters b w) (hwl : w.length ≤ 12) (hd : fgt .f32 (sumF (rowAt a b fs ss hs w w.length) a) 0 = true) (hf : ∀ c, c < b → fin ((nextL a b fs ss hs w).getD c 0) = true) :
  impl_NextLetters ((a : Int), (b : Int), fs, ss, hs) w = some (nextL a b fs ss hs w, true) := by
 have m := d.m
 have hn2 := m.n2
 have hk2 := m.k2
 have hlh := m.lh
 have hlen := rowAt_len m w w.length
 have e : (rowsF a b fs ss hs w).getD w.length [] = rowAt a b fs ss hs w w.length := rows_at _ _
 have hg : (0 : Int) ≤ lenI w ∧ lenI w < lenI (rowsF a b fs ss hs w) := by
  simp only [lenI, rowsF, List.length_map, List.length_range]; omega
 have et : (lenI w).toNat = w.length := by simp [lenI]
 unfold impl_NextLetters
 simp only [implMWord (w := w) (by omega), okW d hw hwl, Bool.not_true, cond_false, implForward m hw hwl, Option.bind_some, guard_pos hg, et, e, implSum (xs := rowAt a b fs ss hs w w.length) (by omega), hlen, hd]
 have s2 := loop_app (f := impl_NextLetters_B2 ((a : Int), (b : Int), fs, ss, hs) w (rowsF a b fs ss hs w) (sumF (rowAt a b fs ss hs w w.length) a)) (fun c => fop .quo .f32 (letF b hs (rowAt a b fs ss hs w w.length) c a) (sumF (rowAt a b fs ss hs w w.length) a)) b [] (fun c out hc ho => by
   have := rounds_forS (f := impl_NextLetters_B1 ((a : Int), (b : Int), fs, ss, hs) w (rowsF a b fs ss hs w) ((c : Int), out)) (fun i s => (s, ((i : Nat) : Int))) (fun i s => fop .add .f32 s (fop .mul .f32 ((rowAt a b fs ss hs w w.length).getD i 0) (hs.getD (i * b + c) 0))) id (n := a) (fun i s => s = letF b hs (rowAt a b fs ss hs w w.length) c i)
    (fun i s hi hz => ⟨by
     obtain ⟨e1, e2⟩ := cellM (a := a) (b := b) (by omega) (by omega) hi hc
     have j1 := idxN (i := i) (n := (rowAt a b fs ss hs w w.length).length) (by omega)
     have j2 := idxN (i := i * b + c) (n := hs.length) (by omega)
     unfold impl_NextLetters_B1 impl_Model_show
     simp only [lenI, Int.toNat_natCast, e]
     rw [hlen] at j1 ⊢
     simp only [ltN hi, cond_true, Int.toNat_natCast, nextN hi (show a ≤ 4294967296 by omega), e1]
     rw [guard_pos j1, guard_pos j2]
     rfl, by rw [hz]; rfl⟩)
    (fun s _ => by
     unfold impl_NextLetters_B1
     simp only [lenI, Int.toNat_natCast, e]
     rw [hlen]
     simp only [geN (Nat.le_refl _), cond_false]; rfl) a 0 0 (by omega) rfl
   simp only [Int.natCast_zero] at this
   unfold impl_NextLetters_B2
   simp only [ltN hc, cond_true, this.1, id, Option.bind_some, this.2, nextN hc (show b ≤ 4294967296 by omega)]
   rw [guard_pos (by simp only [ho, List.length_singleton, List.length_nil, appMax]; omega)]) (fun out => by
   unfold impl_NextLetters_B2
   simp only [geN (Nat.le_refl _), cond_false])
 rw [s2]
 simp only [Option.bind_some, List.nil_append]
 have hlr : (nextL a b fs ss hs w).length = b := by simp [nextL]
 have hfins : fins (nextL a b fs ss hs w) = true := allN_iff.2 fun j _ hj => hf j (by omega)
 show (impl_finiteList_mv0 (nextL a b fs ss hs w)).bind _ = _
 rw [implFinsL (by omega), hfins]
 rfl

end

theorem same_self {x : Nat} (h : feq .f32 x x = true) (h2 : fconv .f32 .f64 x ≠ 9221120237041090560) : impl_SameNumber x x = some true := by
 unfold impl_SameNumber math_Signbit
 simp only [h, Bool.not_true, cond_false, cond_true, Option.bind_some, guard_pos h2, beq_self_eq_true]

theorem sames_self {xs : List Nat} (hl : xs.length ≤ 4294967296) (h : ∀ i, i < xs.length → impl_SameNumber (xs.getD i 0) (xs.getD i 0) = some true) : impl_areSame xs xs = some true := by
 have := rounds_forS (f := slices_EqualFunc___float32___float32_float32_float32_fn2_impl_SameNumber_B1 xs xs) (fun i (_ : Unit) => ((i : Nat) : Int)) (fun _ s => s) (fun _ => (.inl () : Unit ⊕ Unit)) (n := xs.length) (fun _ _ => True)
  (fun i s hi _ => ⟨by
   unfold slices_EqualFunc___float32___float32_float32_float32_fn2_impl_SameNumber_B1
   simp only [lenI, ltN hi, cond_true, Int.toNat_natCast, guard_pos (idxN hi), h i hi, Option.bind_some, Bool.not_true, cond_false, nextN hi hl], trivial⟩)
  (fun s _ => by
   unfold slices_EqualFunc___float32___float32_float32_float32_fn2_impl_SameNumber_B1
   simp only [lenI, geN (Nat.le_refl _), cond_false]) xs.length 0 () (by omega) trivial
 simp only [Int.natCast_zero] at this
 unfold impl_areSame slices_EqualFunc___float32___float32_float32_float32_fn2_impl_SameNumber
 simp only [bne_self_eq_false, cond_false, this.1, Option.bind_some]

end Go.Proofs


/-
 Chances of letters and of words make 1, nearly: as rational numbers.
-/
namespace Go.Proofs
open Go.Ide Go.IntWalk

theorem sumQ_rows (f : Nat → Rat) (w : Nat) : ∀ n, sumQ f (n * w) = sumQ (fun i => sumQ (fun j => f (i * w + j)) w) n
 | 0 => by rw [Nat.zero_mul]; rfl
 | n + 1 => by
  have h : ∀ m, sumQ f (n * w + m) = sumQ f (n * w) + sumQ (fun j => f (n * w + j)) m := fun m => by
   induction m with
   | zero => show sumQ f (n * w) = sumQ f (n * w) + 0; grind
   | succ m ih => show sumQ f (n * w + m) + f (n * w + m) = sumQ f (n * w) + (sumQ (fun j => f (n * w + j)) m + f (n * w + m)); rw [ih]; grind
  rw [Nat.succ_mul, h w, sumQ_rows f w n]; rfl

theorem up_nq {x b : Nat} (hx : x ≤ 2130706432) (hb : V32 x ≤ 2 ^ b) (hb2 : b ≤ 175) : FD (fconv .f32 .f64 x) ∧ fconv .f32 .f64 x ≤ 9214364837600034816 ∧ 0 ≤ wD (fconv .f32 .f64 x) ∧ Nq 12 (wD (fconv .f32 .f64 x)) (wS x) := by
 obtain ⟨k, hk⟩ : ∃ k : Nat, k = 925 := ⟨_, rfl⟩
 obtain ⟨h1, h2, h3⟩ := conv_ok hk hx hb (by omega)
 have hw : wD (fconv .f32 .f64 x) = ((V32D (fconv .f32 .f64 x) : Nat) : Rat) / UD := by
  unfold wD
  rw [Nat.div_eq_of_lt (by omega)]; rfl
 have hU := UD_pos
 have h0 : (0 : Rat) ≤ ((V32D (fconv .f32 .f64 x) : Nat) : Rat) := natLe (Nat.zero_le _)
 refine ⟨⟨by unfold bdD; omega, Nat.le_trans h2 (Nat.pow_le_pow_right (by omega) (by have := kD_int; omega))⟩, h1, ?_, ?_⟩
 ·rw [hw]
  refine Rat.le_of_mul_le_mul_right (c := UD) ?_ hU
  generalize ((V32D (fconv .f32 .f64 x) : Nat) : Rat) = v at *
  generalize UD = U at *
  have e : v / U * U = v := by grind
  rw [e]; grind
 ·have n := nq_of_near h3
  rw [Rat.natCast_mul] at n
  rw [hw, wS_V hx]
  have e := UD_US hk
  have hS := US_pos
  refine Nq.cancel (c := UD) ?_ hU
  generalize ((V32D (fconv .f32 .f64 x) : Nat) : Rat) = v at *
  generalize ((V32 x : Nat) : Rat) = u at *
  have e1 : v / UD * UD = v := by grind
  have e2 : u / US * UD = u * ((2 ^ k : Nat) : Rat) := by
   rw [e]
   generalize ((2 ^ k : Nat) : Rat) = p
   generalize US = U at *
   grind
  rw [e1, e2]
  exact n

theorem mul_nnD {x y : Nat} (hx : x ≤ 9214364837600034816) (hy : y ≤ 9214364837600034816) : 0 ≤ wD (fop .mul .f64 x y) := by
 rw [mul_valD hx hy]
 have h := RN_posD (V32D x * V32D y) (-1074 - ((1074 : Nat) : Int))
 unfold wD
 rw [Nat.div_eq_of_lt (by omega)]
 have hU := UD_pos
 have h0 : (0 : Rat) ≤ ((V32D (RND (V32D x * V32D y) (-1074 - ((1074 : Nat) : Int))) : Nat) : Rat) := natLe (Nat.zero_le _)
 generalize ((V32D (RND (V32D x * V32D y) (-1074 - ((1074 : Nat) : Int))) : Nat) : Rat) = v at *
 show 0 ≤ v / UD
 refine Rat.le_of_mul_le_mul_right (c := UD) ?_ hU
 generalize UD = U at *
 have e : v / U * U = v := by grind
 rw [e]; grind

section
variable {a b : Nat} {fs ss hs : List Nat}

theorem chance_nq (d : Drawn a b fs ss hs) {w : List Int} (hw : Letters b w) (hl : w.length ≤ 6) : Nq 48 (wS (sumF (rowAt a b fs ss hs w w.length) a)) (sumQ (fun p => wS ((rowAt a b fs ss hs w w.length).getD p 0)) a) ∧ sumF (rowAt a b fs ss hs w w.length) a ≤ 2130706432 ∧ V32 (sumF (rowAt a b fs ss hs w w.length) a) ≤ 2 ^ (149 + 4 * w.length + 4) := by
 have a4 := d.a4
 have hr := fwd_rg d hw hl w.length (Nat.le_refl _)
 have h := sum_nq (f := fun n => sumF (rowAt a b fs ss hs w w.length) n) (lo := 143 - 12 * w.length) (hi := 149 + 4 * w.length) (by omega) rfl (fun p => rfl) a hr (by omega)
 obtain ⟨q1, q2, _, _⟩ := sum_rg (f := fun n => sumF (rowAt a b fs ss hs w w.length) n) (lo := 143 - 12 * w.length) (hi := 149 + 4 * w.length) (by omega) rfl (fun p => rfl) a hr (by omega)
 exact ⟨h.mono (wS_nn q1) (sumQ_nn a fun p hp => wS_nn (hr p hp).fin) (by omega), q1, Nat.le_trans q2 (Nat.pow_le_pow_right (by omega) (by omega))⟩

theorem hrow_one (g : DrawnG a b fs ss hs) {p : Nat} (hp : p < a) : Nq 72 (sumQ (fun c => wS (hs.getD (p * b + c) 0)) b) 1 := by
 have lh := g.d.m.lh
 have h := rowG_sum (g.gh p hp) (rowF_len lh hp) (fun i hi => by rw [rowF_get lh hp hi]; exact g.d.eh p i hp hi)
 rw [sumQ_congr b (g := fun c => wS (hs.getD (p * b + c) 0)) fun c hc => by rw [rowF_get lh hp hc]] at h
 exact h

theorem srow_one (g : DrawnG a b fs ss hs) {p : Nat} (hp : p < a) : Nq 72 (sumQ (fun j => wS (ss.getD (p * a + j) 0)) a) 1 := by
 have ls := g.d.m.ls
 have h := rowG_sum (g.gs p hp) (rowF_len ls hp) (fun i hi => by rw [rowF_get ls hp hi]; exact g.d.es p i hp hi)
 rw [sumQ_congr a (g := fun c => wS (ss.getD (p * a + c) 0)) fun c hc => by rw [rowF_get ls hp hc]] at h
 exact h

theorem row_letters (g : DrawnG a b fs ss hs) {r : Nat → Rat} (hr : ∀ p, p < a → 0 ≤ r p) : Nq 72 (sumQ (fun c => sumQ (fun p => r p * wS (hs.getD (p * b + c) 0)) a) b) (sumQ r a) := by
 rw [sumQ_swap (fun c p => r p * wS (hs.getD (p * b + c) 0)) a b]
 refine sumQ_near a fun p hp => ?_
 have h := (hrow_one g hp).mulr (hr p hp)
 rw [sumQ_mul] at h
 have e : (1 : Rat) * r p = r p := by grind
 rw [e] at h
 rw [sumQ_congr b (g := fun c => wS (hs.getD (p * b + c) 0) * r p) fun c hc => by grind]
 exact h

theorem step_letters (g : DrawnG a b fs ss hs) {row : List Nat} {lo hi : Nat} (hr : RowRg a lo hi row) (h1 : 39 ≤ lo) (h2 : lo ≤ hi) (h3 : hi ≤ 250) :
  Nq 216 (sumQ (fun c => sumQ (fun j => wS ((nextF a b ss hs row c).getD j 0)) a) b) (sumQ (fun p => wS (row.getD p 0)) a) := by
 have d := g.d
 have hn : ∀ p, p < a → 0 ≤ wS (row.getD p 0) := fun p hp => wS_nn (hr p hp).fin
 have q1 : Nq 144 (sumQ (fun c => sumQ (fun j => wS ((nextF a b ss hs row c).getD j 0)) a) b) (sumQ (fun c => sumQ (fun p => wS (row.getD p 0) * wS (hs.getD (p * b + c) 0)) a) b) := by
  refine sumQ_near b fun c hc => ?_
  have x := sumQ_near a fun j hj => next_nq d hc hr h1 h2 h3 (j := j) hj
  refine x.trans (k := 72) (l := 72) ?_
  rw [sumQ_swap (fun j p => wS (row.getD p 0) * wS (hs.getD (p * b + c) 0) * wS (ss.getD (p * a + j) 0)) a a]
  refine sumQ_near a fun p hp => ?_
  have hX : 0 ≤ wS (row.getD p 0) * wS (hs.getD (p * b + c) 0) := Rat.mul_nonneg (hn p hp) (wS_nn (d.eh p c hp hc).fin)
  have q := (srow_one g hp).mulr hX
  rw [sumQ_mul] at q
  have e : (1 : Rat) * (wS (row.getD p 0) * wS (hs.getD (p * b + c) 0)) = wS (row.getD p 0) * wS (hs.getD (p * b + c) 0) := by grind
  rw [e] at q
  rw [sumQ_congr a (g := fun j => wS (ss.getD (p * a + j) 0) * (wS (row.getD p 0) * wS (hs.getD (p * b + c) 0))) fun j hj => by grind]
  exact q
 exact q1.trans (row_letters g hn)

theorem letters2 {x y : Nat} (hx : x < b) (hy : y < b) : Letters b [(x : Int), (y : Int)] := fun i hi => by
 match i, hi with
 | 0, _ => exact ⟨x, rfl, hx⟩
 | 1, _ => exact ⟨y, rfl, hy⟩

theorem words2 (g : DrawnG a b fs ss hs) : Nq 600 (sumQ (fun x => sumQ (fun y => wS (sumF (rowAt a b fs ss hs [(x : Int), (y : Int)] 2) a)) b) b) 1 := by
 have d := g.d
 have hf : RowRg a 143 149 fs := d.ef
 have r1 : ∀ x, x < b → RowRg a 131 153 (nextF a b ss hs fs x) := fun x hx => next_rg d hx hf (by omega) (by omega) (by omega)
 have q0 := rowG_sum g.gf d.m.lf d.ef
 have q1 := step_letters g hf (by omega) (by omega) (by omega)
 have q2 : Nq 264 (sumQ (fun x => sumQ (fun y => wS (sumF (rowAt a b fs ss hs [(x : Int), (y : Int)] 2) a)) b) b) (sumQ (fun x => sumQ (fun j => wS ((nextF a b ss hs fs x).getD j 0)) a) b) := by
  refine sumQ_near b fun x hx => ?_
  refine Nq.trans (k := 48) (l := 216) ?_ (step_letters g (r1 x hx) (by omega) (by omega) (by omega))
  refine sumQ_near b fun y hy => ?_
  exact (chance_nq d (letters2 hx hy) (by show 2 ≤ 6; omega)).1
 have p0 : 0 ≤ sumQ (fun x => sumQ (fun y => wS (sumF (rowAt a b fs ss hs [(x : Int), (y : Int)] 2) a)) b) b := sumQ_nn b fun x hx => sumQ_nn b fun y hy => wS_nn (chance_nq d (letters2 hx hy) (by show 2 ≤ 6; omega)).2.1
 exact ((q2.trans q1).trans q0).mono p0 (by grind) (by omega)

theorem next_one (g : DrawnG a b fs ss hs) {w : List Int} (hw : Letters b w) (hl : w.length ≤ 6) :
  (∀ c, c < b → fop .quo .f32 (letF b hs (rowAt a b fs ss hs w w.length) c a) (sumF (rowAt a b fs ss hs w w.length) a) ≤ 2130706432) ∧
  Nq 300 (sumQ (fun c => wS (fop .quo .f32 (letF b hs (rowAt a b fs ss hs w w.length) c a) (sumF (rowAt a b fs ss hs w w.length) a))) b) 1 := by
 have d := g.d
 have a1 := d.m.n1
 have a4 := d.a4
 have hr := fwd_rg d hw hl w.length (Nat.le_refl _)
 obtain ⟨n1, f1, _⟩ := chance_nq d hw hl
 obtain ⟨q1, q2, _, q4⟩ := sum_rg (f := fun n => sumF (rowAt a b fs ss hs w w.length) n) (lo := 143 - 12 * w.length) (hi := 149 + 4 * w.length) (by omega) rfl (fun p => rfl) a hr (by omega)
 have hA : Rg (143 - 12 * w.length) (149 + 4 * w.length + a) (sumF (rowAt a b fs ss hs w w.length) a) := ⟨q1, q4 (by omega), q2⟩
 have hL := fun c (hc : c < b) => let_nq d hc hr (by omega) (by omega) (by omega)
 have hQ : ∀ c, c < b → fop .quo .f32 (letF b hs (rowAt a b fs ss hs w w.length) c a) (sumF (rowAt a b fs ss hs w w.length) a) ≤ 2130706432 := fun c hc => (quo_rg (hL c hc).1 hA (by omega) (by omega) (by omega)).1
 refine ⟨hQ, ?_⟩
 have hn : ∀ p, p < a → 0 ≤ wS ((rowAt a b fs ss hs w w.length).getD p 0) := fun p hp => wS_nn (hr p hp).fin
 have x1 : Nq 84 (sumQ (fun c => wS (fop .quo .f32 (letF b hs (rowAt a b fs ss hs w w.length) c a) (sumF (rowAt a b fs ss hs w w.length) a)) * wS (sumF (rowAt a b fs ss hs w w.length) a)) b) (sumQ (fun c => sumQ (fun p => wS ((rowAt a b fs ss hs w w.length).getD p 0) * wS (hs.getD (p * b + c) 0)) a) b) :=
  sumQ_near b fun c hc => (quo_nq (hL c hc).1 hA (by omega) (by omega) (by omega)).trans (hL c hc).2
 have x2 := (x1.trans (row_letters g hn)).trans n1.symm
 rw [← sumQ_mul] at x2
 have hC : 0 < wS (sumF (rowAt a b fs ss hs w w.length) a) := by
  have l := hA.w_lo
  have hU := US_pos
  have p := natPos (show 0 < 2 ^ (143 - 12 * w.length) from pow_pos2 _)
  have h0 := wS_nn q1
  rcases Rat.le_iff_lt_or_eq.1 h0 with h | h
  ·exact h
  ·rw [← h] at l
   grind
 have e : (1 : Rat) * wS (sumF (rowAt a b fs ss hs w w.length) a) = wS (sumF (rowAt a b fs ss hs w w.length) a) := by grind
 refine (Nq.cancel (k := 84 + 72 + 48) (c := wS (sumF (rowAt a b fs ss hs w w.length) a)) ?_ hC).mono (sumQ_nn b fun c hc => wS_nn (hQ c hc)) (by grind) (by omega)
 rw [e]
 exact x2

end

end Go.Proofs


/-
 Sums of floats of 64 bits that are near a chance or near 1.
-/
namespace Go.Proofs
open Go.Ide Go.IntWalk

def dSum (t : Nat → Nat) : Nat → Nat
 | 0 => 0
 | n + 1 => fop .add .f64 (dSum t n) (t n)

theorem sumQ_apx {e : Rat} {f g : Nat → Rat} : ∀ n, (∀ i, i < n → Apx e (f i) (g i)) → Apx ((n : Rat) * e) (sumQ f n) (sumQ g n)
 | 0, _ => by
  rw [show ((0 : Nat) : Rat) = 0 from rfl]
  show Apx (0 * e) 0 0
  constructor <;> grind
 | n + 1, h => by
  obtain ⟨a1, a2⟩ := sumQ_apx n fun i hi => h i (by omega)
  obtain ⟨b1, b2⟩ := h n (by omega)
  rw [Rat.natCast_add, show ((1 : Nat) : Rat) = 1 from rfl]
  show Apx _ (sumQ f n + f n) (sumQ g n + g n)
  constructor <;> grind

theorem sumQ_ge {u : Nat → Rat} : ∀ (m : Nat), (∀ i, i < m → 0 ≤ u i) → ∀ p, p < m → u p ≤ sumQ u m
 | 0, _, p, hp => absurd hp (Nat.not_lt_zero p)
 | m + 1, hu, p, hp => by
  have h1 := sumQ_nn m (fun i hi => hu i (by omega))
  have h2 := hu m (by omega)
  show u p ≤ sumQ u m + u m
  by_cases e : p = m
  ·subst e; grind
  ·have := sumQ_ge m (fun i hi => hu i (by omega)) p (by omega); grind

theorem sum_one {x : Nat → Nat} {n K b : Nat} (hn : n ≤ 20) (hb : b ≤ 175) (hx : ∀ p, p < n → x p ≤ 2130706432 ∧ V32 (x p) ≤ 2 ^ b) (h : Nq K (sumQ (fun p => wS (x p)) n) 1) (hK : K ≤ 5000) :
  ∃ z, laws_b10Gap (dSum (fun p => fconv .f32 .f64 (x p)) n) 4607182418800017408 = some z ∧ fgt .f64 z 4562254508917369340 = false ∧ flt .f64 z 4562254508917369340 = true := by
 have hc := fun p (hp : p < n) => up_nq (hx p hp).1 (hx p hp).2 hb
 have q := (sumQ_near n fun p hp => (hc p hp).2.2.2).trans h
 have hS : 0 ≤ sumQ (fun p => wD (fconv .f32 .f64 (x p))) n := sumQ_nn n fun p hp => (hc p hp).2.2.1
 have q := q.mono hS (by grind) (show 12 + K ≤ 5100 by omega)
 have t := rp_tight 5100 (by omega)
 rw [show ((5100 : Nat) : Rat) = 5100 from rfl] at t
 obtain ⟨q1, q2⟩ := q
 have k1 := Rat.mul_le_mul_of_nonneg_left t hS
 obtain ⟨f1, f2, f3⟩ := sum64 (f := dSum fun p => fconv .f32 .f64 (x p)) (t := fun p => fconv .f32 .f64 (x p)) (e := 4) rfl (fun p => rfl) (by grind) (by grind) n hn (fun p hp => ⟨(hc p hp).1, (hc p hp).2.2.1⟩) (by grind)
 have hnc := natLe hn
 rw [show ((20 : Nat) : Rat) = 20 from rfl] at hnc
 exact gap_one f1 ⟨by grind, by grind⟩

theorem sum_place {f g : Nat → Nat} {n K b C : Nat} (hn : n ≤ 4) (hb : b ≤ 175) (hf : ∀ p, p < n → f p ≤ 2130706432 ∧ V32 (f p) ≤ 2 ^ b) (hg : ∀ p, p < n → g p ≤ 2130706432 ∧ V32 (g p) ≤ 2 ^ b) (hC : C ≤ 2130706432) (hCb : V32 C ≤ 2 ^ b)
  (c1 : 1 / 100000000000 ≤ wS C) (c2 : wS C ≤ 10002 / 10000) (h : Nq K (sumQ (fun p => wS (f p) * wS (g p)) n) (wS C)) (hK : K ≤ 5000) :
  ∃ z, laws_b10Gap (dSum (fun p => fop .mul .f64 (fconv .f32 .f64 (f p)) (fconv .f32 .f64 (g p))) n) (fconv .f32 .f64 C) = some z ∧ fgt .f64 z (fop .mul .f64 4562254508917369340 (fconv .f32 .f64 C)) = false := by
 have hF := fun p (hp : p < n) => up_nq (hf p hp).1 (hf p hp).2 hb
 have hG := fun p (hp : p < n) => up_nq (hg p hp).1 (hg p hp).2 hb
 obtain ⟨C1, C2, C3, C4⟩ := up_nq hC hCb hb
 have hp0 : ∀ p, p < n → 0 ≤ wD (fconv .f32 .f64 (f p)) * wD (fconv .f32 .f64 (g p)) := fun p hp => Rat.mul_nonneg (hF p hp).2.2.1 (hG p hp).2.2.1
 have q1 : Nq 24 (sumQ (fun p => wD (fconv .f32 .f64 (f p)) * wD (fconv .f32 .f64 (g p))) n) (sumQ (fun p => wS (f p) * wS (g p)) n) :=
  sumQ_near n fun p hp => (hF p hp).2.2.2.mul (hG p hp).2.2.2 (hF p hp).2.2.1 (wS_nn (hf p hp).1) (hG p hp).2.2.1 (wS_nn (hg p hp).1)
 have hS := sumQ_nn n hp0
 have q2 := ((q1.trans h).trans C4.symm).mono hS C3 (show 24 + K + 12 ≤ 5100 by omega)
 have t := rp_tight 5100 (by omega)
 rw [show ((5100 : Nat) : Rat) = 5100 from rfl] at t
 have t12 := rp_tight 12 (by omega)
 rw [show ((12 : Nat) : Rat) = 12 from rfl] at t12
 obtain ⟨C5, C6⟩ := C4
 have hle : ∀ p, p < n → wD (fconv .f32 .f64 (f p)) * wD (fconv .f32 .f64 (g p)) ≤ sumQ (fun p => wD (fconv .f32 .f64 (f p)) * wD (fconv .f32 .f64 (g p))) n :=
  fun p hp => sumQ_ge n hp0 p hp
 have hCn := wS_nn hC
 generalize hDC : wD (fconv .f32 .f64 C) = D at *
 generalize hCg : wS C = c at *
 generalize hSg : sumQ (fun p => wD (fconv .f32 .f64 (f p)) * wD (fconv .f32 .f64 (g p))) n = S at *
 obtain ⟨q3, q4⟩ := q2
 have k1 := Rat.mul_le_mul_of_nonneg_left t C3
 have k2 := Rat.mul_le_mul_of_nonneg_left t hS
 have k3 := Rat.mul_le_mul_of_nonneg_left t12 C3
 have k4 := Rat.mul_le_mul_of_nonneg_left t12 hCn
 have d1 : 1 / 1000000000000 ≤ D := by grind
 have d2 : D ≤ 5 / 4 := by grind
 have S2 : S ≤ 10001 / 10000 * D := by grind
 have hm : ∀ p, p < n → FD (fop .mul .f64 (fconv .f32 .f64 (f p)) (fconv .f32 .f64 (g p))) ∧ Apx (2 * D / 4503599627370496) (wD (fop .mul .f64 (fconv .f32 .f64 (f p)) (fconv .f32 .f64 (g p)))) (wD (fconv .f32 .f64 (f p)) * wD (fconv .f32 .f64 (g p))) := fun p hp => by
  have l1 := hle p hp
  have l2 := hp0 p hp
  obtain ⟨m1, m2⟩ := mulD (e := 2 * D) (hF p hp).1 (hG p hp).1 (by grind) (by grind) (by grind) (by grind)
  exact ⟨m1, m2⟩
 have hA := sumQ_apx n fun p hp => (hm p hp).2
 rw [hSg] at hA
 have hT := sumQ_nn (f := fun p => wD (fop .mul .f64 (fconv .f32 .f64 (f p)) (fconv .f32 .f64 (g p)))) n fun p hp => mul_nnD (hF p hp).2.1 (hG p hp).2.1
 have hnc := natLe hn
 rw [show ((4 : Nat) : Rat) = 4 from rfl] at hnc
 have hn0 : (0 : Rat) ≤ (n : Rat) := natLe (Nat.zero_le n)
 have nD := Rat.mul_le_mul_of_nonneg_right hnc (show 0 ≤ D by grind)
 have nD0 := Rat.mul_nonneg hn0 (show 0 ≤ D by grind)
 obtain ⟨a1, a2⟩ := hA
 obtain ⟨f1, f2, f3⟩ := sum64 (f := dSum fun p => fop .mul .f64 (fconv .f32 .f64 (f p)) (fconv .f32 .f64 (g p))) (t := fun p => fop .mul .f64 (fconv .f32 .f64 (f p)) (fconv .f32 .f64 (g p))) (e := 3 * D) rfl (fun p => rfl) (by grind) (by grind) n (by omega) (fun p hp => ⟨(hm p hp).1, mul_nnD (hF p hp).2.1 (hG p hp).2.1⟩) (by grind)
 refine gap_rel f1 C1 ?_ (by rw [hDC]; exact d1) (by rw [hDC]; grind)
 rw [hDC]
 constructor <;> grind

theorem one_place {x C b : Nat} (hb : b ≤ 175) (hx : FS x) (hC : C ≤ 2130706432) (hCb : V32 C ≤ 2 ^ b) (c1 : 1 / 100000000000 ≤ wS C) (c2 : wS C ≤ 10002 / 10000) (h : Apx (7 / 10000 * wS C) (wS x) (wS C)) :
  ∃ z, laws_b10Gap (fconv .f32 .f64 x) (fconv .f32 .f64 C) = some z ∧ fgt .f64 z (fop .mul .f64 4562254508917369340 (fconv .f32 .f64 C)) = false := by
 obtain ⟨C1, C2, C3, C4⟩ := up_nq hC hCb hb
 obtain ⟨h1, h2⟩ := h
 obtain ⟨u1, u2, u3⟩ := upD (e := 2 * wS C) hx (by grind) (by grind) (by grind) (by grind)
 have t12 := rp_tight 12 (by omega)
 rw [show ((12 : Nat) : Rat) = 12 from rfl] at t12
 obtain ⟨C5, C6⟩ := C4
 have k3 := Rat.mul_le_mul_of_nonneg_left t12 C3
 have k4 := Rat.mul_le_mul_of_nonneg_left t12 (wS_nn hC)
 refine gap_rel u1 C1 ?_ (by grind) (by grind)
 constructor <;> grind

end Go.Proofs


/-
 What the law says of chances: the whole.
-/
namespace Go.Proofs
open Go.Ide Go.IntWalk

theorem forS_sum {t : Nat → Nat} : ∀ (k i : Nat), forS (fun j s => fop .add .f64 s (t j)) k i (dSum t i) = dSum t (i + k)
 | 0, i => rfl
 | k + 1, i => by
  show forS (fun j s => fop .add .f64 s (t j)) k (i + 1) (dSum t (i + 1)) = _
  rw [forS_sum k (i + 1), show i + 1 + k = i + (k + 1) by omega]

theorem ent_num {x : Nat} (h : Rg 143 149 x) : impl_SameNumber x x = some true := by
 refine same_self ?_ ?_
 ·show (Ieee.single.order x x == some .eq) = true
  rw [order_V h.fin h.fin]
  simp [compare, compareOfLessAndEq]
 ·have := (up_nq h.fin h.hi (by omega)).2.1
  omega

theorem V_of_w {x : Nat} (hx : x ≤ 2130706432) (h : wS x ≤ 2) : V32 x ≤ 2 ^ 150 := by
 rw [wS_V hx] at h
 have hU := US_pos
 have e2 : ((2 ^ 150 : Nat) : Rat) = 2 * US := by
  rw [V149, show (2 : Nat) ^ 150 = 2 * 2 ^ 149 by decide, Rat.natCast_mul]; rfl
 refine Rat.natCast_le_natCast.1 ?_
 rw [e2]
 generalize ((V32 x : Nat) : Rat) = v at *
 have p := Rat.mul_le_mul_of_nonneg_right h (Rat.le_of_lt hU)
 have e : v / US * US = v := by grind
 rw [e] at p
 exact p

section
variable {a b : Nat} {fs ss hs : List Nat}

theorem sameModel_self (d : Drawn a b fs ss hs) : impl_SameModel ((a : Int), (b : Int), fs, ss, hs) ((a : Int), (b : Int), fs, ss, hs) = some true := by
 have a4 := d.a4
 have k2 := d.m.k2
 have lf := d.m.lf
 have ls := d.m.ls
 have lh := d.m.lh
 have h1 : a * a ≤ 4 * 4 := Nat.mul_le_mul a4 a4
 have h2 : a * b ≤ 4 * 4 := Nat.mul_le_mul a4 (by omega)
 have cell : ∀ {c i : Nat}, 0 < c → i < a * c → i / c < a ∧ i % c < c ∧ i / c * c + i % c = i := fun {c i} hc hi => ⟨Nat.div_lt_of_lt_mul (by rwa [Nat.mul_comm]), Nat.mod_lt _ hc, Nat.div_add_mod' _ _⟩
 have sf := sames_self (xs := fs) (by omega) fun i hi => ent_num (d.ef i (by omega))
 have s2 := sames_self (xs := ss) (by omega) fun i hi => by
  obtain ⟨x, y, e⟩ := cell (c := a) (i := i) (by have := d.m.n1; omega) (by omega)
  have := d.es _ _ x y
  rw [e] at this
  exact ent_num this
 have s3 := sames_self (xs := hs) (by omega) fun i hi => by
  obtain ⟨x, y, e⟩ := cell (c := b) (i := i) (by have := d.m.k1; omega) (by omega)
  have := d.eh _ _ x y
  rw [e] at this
  exact ent_num this
 unfold impl_SameModel
 simp only [beq_self_eq_true, cond_true, sf, s2, s3, Option.bind_some]

end

theorem FnChances_law (x0 x1 : List Int) (w0 : WfD (.sl (.int .u8)) x0) (w1 : WfD (.sl (.int .u8)) x1) : laws_FnChances x0 x1 = some true := by
 unfold laws_FnChances laws_b10Long
 by_cases c0 : lenI x0 > (1048576 : Int)
 ·simp only [c0, decide_true, cond_true, Option.bind_some]
 ·by_cases c1 : lenI x1 > (1048576 : Int)
  ·simp only [c0, c1, decide_true, decide_false, cond_true, cond_false, Option.bind_some]
  ·simp only [c0, c1, decide_false, cond_false, Option.bind_some]
   have b0 := bytesI_wf w0 (by simp only [lenI] at c0; omega)
   have b1 := bytesI_wf w1 (by simp only [lenI] at c1; omega)
   obtain ⟨y4, e4, p1, p2⟩ := b10At_ok b1 (i := 0) (n := 2) (by omega)
   obtain ⟨b, hb, b2, b3⟩ : ∃ b : Nat, wadd .i64 (2 : Int) y4 = (b : Int) ∧ 2 ≤ b ∧ b ≤ 3 := ⟨(2 + y4).toNat, by rw [waddI (by omega)]; omega, by omega, by omega⟩
   obtain ⟨a, fs, ss, hs, eM, g⟩ := drawModelG b0 (b := b) (by omega) (by omega)
   have d := g.d
   obtain ⟨y8, e8, q1, q2⟩ := b10At_ok b1 (i := 1) (n := 7) (by omega)
   obtain ⟨n, rfl⟩ : ∃ n : Nat, y8 = (n : Int) := ⟨y8.toNat, by omega⟩
   have n6 : n ≤ 6 := by omega
   obtain ⟨w, eW, lW, hW⟩ := drawWord (c := b) (k := n) (by omega) (by omega) b1
   have hwl : w.length ≤ 6 := by omega
   have m := d.m
   have a1 := m.n1
   have a4 := d.a4
   have eC := chance_val d hW (by omega)
   obtain ⟨total, r, eL, eX, fr, ar, cf, cl, cu⟩ := log_val g hW hwl
   obtain ⟨fl, eF, lF, gF⟩ := forward_val d hW (by omega)
   obtain ⟨bl, eB, lB, gB⟩ := backward_val d hW (by omega)
   have eV : impl_ValidModel ((a : Int), (b : Int), fs, ss, hs) = some true := by rw [implModel, d.ok]
   have eS := sameModel_self d
   obtain ⟨nC, _, _⟩ := chance_nq d hW hwl
   have hCb : V32 (sumF (rowAt a b fs ss hs w w.length) a) ≤ 2 ^ 150 := V_of_w cf (by grind)
   -- the next letters
   obtain ⟨nf, n1⟩ := next_one g hW hwl
   have hpos : fgt .f32 (sumF (rowAt a b fs ss hs w w.length) a) 0 = true := by
    rw [fgt_V cf (by omega), V_zero]
    refine decide_eq_true (Nat.pos_of_ne_zero fun e => ?_)
    rw [wS_V cf, e] at cl
    have hU := US_pos
    have e0 : ((0 : Nat) : Rat) / US = 0 := by rw [show ((0 : Nat) : Rat) = 0 from rfl]; grind
    rw [e0] at cl
    grind
   have hfin : ∀ c, c < b → fin ((nextL a b fs ss hs w).getD c 0) = true := fun c hc => by
    rw [nextL_get hc]
    have := nf c hc
    exact fin_bd (K := 254) (by unfold bd; omega) (by omega) (by omega)
   have eN := next_val d hW (by omega) hpos hfin
   have hlN : (nextL a b fs ss hs w).length = b := by simp [nextL]
   -- the conditions
   generalize hCg : sumF (rowAt a b fs ss hs w w.length) a = C at *
   have hle : fle .f32 C 0 = false := by
    rw [fgt_V cf (by omega), V_zero] at hpos
    rw [fle_V cf (by omega), V_zero]
    have := of_decide_eq_true hpos
    exact decide_eq_false (by omega)
   obtain ⟨uF, u1, u2, u3⟩ := up_nq cf hCb (by omega)
   have hone : FD 4607186922399644778 ∧ wD 4607186922399644778 = 4508103226997866 / 4503599627370496 :=
    ⟨litFD (by omega), by rw [litD (c := 4508103226997866) (d := 4503599627370496) (by omega) (by omega) (by decide +kernel)]; rfl⟩
   have hgt : fgt .f64 (fconv .f32 .f64 C) 4607186922399644778 = false := by
    rw [fgt_w uF hone.1, hone.2]
    refine decide_eq_false ?_
    have t12 := rp_tight 12 (by omega)
    rw [show ((12 : Nat) : Rat) = 12 from rfl] at t12
    obtain ⟨v1, v2⟩ := u3
    have k1 := Rat.mul_le_mul_of_nonneg_left t12 (wS_nn cf)
    grind
   have hn1 : wmul .i64 (wadd .i64 (n : Int) 1) (a : Int) = (((n + 1) * a : Nat) : Int) := by
    have : (n + 1) * a ≤ 7 * 4 := Nat.mul_le_mul (by omega) a4
    rw [waddI (by omega), show (n : Int) + 1 = ((n + 1 : Nat) : Int) by omega, wmulI (by rw [← Int.natCast_mul]; omega), ← Int.natCast_mul]
   have d1 : (lenI fl != (((n + 1) * a : Nat) : Int)) = false := by simp only [lenI, lF, lW, bne_self_eq_false]
   have d2 : (lenI bl != (((n + 1) * a : Nat) : Int)) = false := by simp only [lenI, lB, lW, bne_self_eq_false]
   have d3 : (lenI (nextL a b fs ss hs w) != (b : Int)) = false := by simp only [lenI, hlN, bne_self_eq_false]
   simp only [e4, hb, eM, e8, eW, eC, eL, eF, eB, eV, eS, hn1, d1, d2, hle, hgt, Option.bind_some, Bool.not_true, cond_false]
   -- places
   have hB4 : ∀ i, i ≤ n → rounds (laws_FnChances_B4 ((a : Int), (b : Int), fs, ss, hs) (fl, true) (bl, true) (i : Int)) ((0 : Nat), (0 : Int)) =
     some (dSum (fun j => fop .mul .f64 (fconv .f32 .f64 ((rowAt a b fs ss hs w i).getD j 0)) (fconv .f32 .f64 ((rowE a b ss hs w (w.length - i)).getD j 0))) a) := fun i hi => by
    have := rounds_forS (f := laws_FnChances_B4 ((a : Int), (b : Int), fs, ss, hs) (fl, true) (bl, true) (i : Int)) (fun j (s : Nat) => (s, ((j : Nat) : Int))) (fun j s => fop .add .f64 s (fop .mul .f64 (fconv .f32 .f64 ((rowAt a b fs ss hs w i).getD j 0)) (fconv .f32 .f64 ((rowE a b ss hs w (w.length - i)).getD j 0)))) id (n := a) (fun _ _ => True)
     (fun j s hj _ => ⟨by
      have ec := cellN (c := a) (i := i) (k := j) (by omega) (by omega) (by omega)
      have hlt : i * a + j < (n + 1) * a := by
       have : i * a + a ≤ (n + 1) * a := by rw [← Nat.succ_mul]; exact Nat.mul_le_mul_right _ (by omega)
       omega
      have j1 := idxN (i := i * a + j) (n := fl.length) (by rw [lF, lW]; exact hlt)
      have j2 := idxN (i := i * a + j) (n := bl.length) (by rw [lB, lW]; exact hlt)
      unfold laws_FnChances_B4
      simp only [ltN hj, cond_true, ec, Int.toNat_natCast, nextN hj (show a ≤ 4294967296 by omega)]
      rw [guard_pos j1, guard_pos j2, gF i j (by omega) hj, gB i j (by omega) hj], trivial⟩)
     (fun s _ => by
      unfold laws_FnChances_B4
      simp only [geN (Nat.le_refl _), cond_false]; rfl) a 0 0 (by omega) trivial
    simp only [Int.natCast_zero] at this
    rw [this.1]
    have := forS_sum (t := fun j => fop .mul .f64 (fconv .f32 .f64 ((rowAt a b fs ss hs w i).getD j 0)) (fconv .f32 .f64 ((rowE a b ss hs w (w.length - i)).getD j 0))) a 0
    rw [Nat.zero_add] at this
    exact congrArg some this
   have hplace : ∀ i, i ≤ n → ∃ z, laws_b10Gap (dSum (fun j => fop .mul .f64 (fconv .f32 .f64 ((rowAt a b fs ss hs w i).getD j 0)) (fconv .f32 .f64 ((rowE a b ss hs w (w.length - i)).getD j 0))) a) (fconv .f32 .f64 C) = some z ∧ fgt .f64 z (fop .mul .f64 4562254508917369340 (fconv .f32 .f64 C)) = false := fun i hi => by
    have rf := fwd_rg d hW hwl i (by omega)
    have rb := bwd_rg d hW hwl (w.length - i) (by omega)
    have fb := fb_near d hW hwl (w.length - i) (by omega)
    rw [show w.length - (w.length - i) = i by omega] at fb
    have fb := fb.trans nC.symm
    refine sum_place (b := 173) a4 (by omega) (fun p hp => ⟨(rf p hp).fin, Nat.le_trans (rf p hp).hi (Nat.pow_le_pow_right (by omega) (by omega))⟩) (fun p hp => ⟨(rb p hp).fin, Nat.le_trans (rb p hp).hi (Nat.pow_le_pow_right (by omega) (by omega))⟩) cf (Nat.le_trans hCb (Nat.pow_le_pow_right (by omega) (by omega))) cl cu fb (by omega)
   have hB5 := rounds_forS (f := laws_FnChances_B5 ((a : Int), (b : Int), fs, ss, hs) (n : Int) (C, true) (fl, true) (bl, true)) (fun i (_ : Unit) => ((i : Nat) : Int)) (fun _ s => s) (fun _ => (.inl () : Unit ⊕ Unit)) (n := n + 1) (fun _ _ => True)
    (fun i s hi _ => ⟨by
     obtain ⟨z, ez, fz⟩ := hplace i (by omega)
     have hd : decide ((i : Int) ≤ (n : Int)) = true := decide_eq_true (by omega)
     unfold laws_FnChances_B5
     simp only [hd, cond_true, hB4 i (by omega), Option.bind_some, ez, fz, cond_false, nextN hi (show n + 1 ≤ 4294967296 by omega)], trivial⟩)
    (fun s _ => by
     have hd : decide (((n + 1 : Nat) : Int) ≤ (n : Int)) = false := decide_eq_false (by omega)
     unfold laws_FnChances_B5
     simp only [hd, cond_false]) (n + 1) 0 () (by omega) trivial
   simp only [Int.natCast_zero] at hB5
   obtain ⟨z1, ez1, fz1⟩ := one_place (b := 150) (by omega) fr cf hCb cl cu ar
   simp only [hB5.1, Option.bind_some, eX, ez1, fz1, cond_false]
   -- words of two letters
   have hch : ∀ x y, x < b → y < b → impl_ChanceOf ((a : Int), (b : Int), fs, ss, hs) [(x : Int), (y : Int)] = some (sumF (rowAt a b fs ss hs [(x : Int), (y : Int)] 2) a, true) := fun x y hx hy => chance_val d (letters2 hx hy) (by show 2 ≤ 12; omega)
   let t : Nat → Nat := fun p => fconv .f32 .f64 (sumF (rowAt a b fs ss hs [((p / b : Nat) : Int), ((p % b : Nat) : Int)] 2) a)
   have hB2 : ∀ x, x < b → ∀ (u : Nat), rounds (laws_FnChances_B2 y4 ((a : Int), (b : Int), fs, ss, hs) (u, (x : Int))) (dSum t (x * b), (0 : Int)) = some (.inl (dSum t ((x + 1) * b))) := fun x hx u => by
    have := rounds_forS (f := laws_FnChances_B2 y4 ((a : Int), (b : Int), fs, ss, hs) (u, (x : Int))) (fun y (s : Nat) => (s, ((y : Nat) : Int))) (fun y s => fop .add .f64 s (t (x * b + y))) (fun s => (.inl s : Nat ⊕ Unit)) (n := b) (fun y s => s = dSum t (x * b + y))
     (fun y s hy hs0 => ⟨by
      have e1 : (x * b + y) / b = x := by rw [Nat.mul_comm, Nat.mul_add_div (by omega), Nat.div_eq_of_lt hy, Nat.add_zero]
      have e2 : (x * b + y) % b = y := by rw [Nat.mul_comm, Nat.mul_add_mod, Nat.mod_eq_of_lt hy]
      unfold laws_FnChances_B2
      simp only [hb, ltN hy, cond_true, hch x y hx hy, Option.bind_some, Bool.not_true, cond_false, nextN hy (show b ≤ 4294967296 by omega), t, e1, e2], by rw [hs0]; rfl⟩)
     (fun s _ => by
      unfold laws_FnChances_B2
      simp only [hb, geN (Nat.le_refl _), cond_false]) b 0 (dSum t (x * b)) (by omega) rfl
    simp only [Int.natCast_zero] at this
    rw [this.1, this.2, Nat.succ_mul]
   have hB3 := rounds_forS (f := laws_FnChances_B3 y4 ((a : Int), (b : Int), fs, ss, hs)) (fun x (s : Nat) => (s, ((x : Nat) : Int))) (fun x s => dSum t ((x + 1) * b)) (fun s => (.inl s : Nat ⊕ Unit)) (n := b) (fun x s => s = dSum t (x * b))
    (fun x s hx hs0 => ⟨by
     unfold laws_FnChances_B3
     rw [hs0]
     simp only [hb, ltN hx, cond_true, hB2 x hx, Option.bind_some, nextN hx (show b ≤ 4294967296 by omega)], rfl⟩)
    (fun s _ => by
     unfold laws_FnChances_B3
     simp only [hb, geN (Nat.le_refl _), cond_false]) b 0 0 (by omega) (by rw [Nat.zero_mul]; rfl)
   simp only [Int.natCast_zero] at hB3
   have hbb : b * b ≤ 3 * 3 := Nat.mul_le_mul b3 b3
   have hcell : ∀ p, p < b * b → p / b < b ∧ p % b < b := fun p hp => ⟨Nat.div_lt_of_lt_mul hp, Nat.mod_lt _ (by omega)⟩
   have w2 := words2 g
   have hrows := sumQ_rows (fun p => wS (sumF (rowAt a b fs ss hs [((p / b : Nat) : Int), ((p % b : Nat) : Int)] 2) a)) b b
   have hin : sumQ (fun i => sumQ (fun j => wS (sumF (rowAt a b fs ss hs [(((i * b + j) / b : Nat) : Int), (((i * b + j) % b : Nat) : Int)] 2) a)) b) b = sumQ (fun x => sumQ (fun y => wS (sumF (rowAt a b fs ss hs [(x : Int), (y : Int)] 2) a)) b) b :=
    sumQ_congr b fun x hx => sumQ_congr b fun y hy => by
     have e1 : (x * b + y) / b = x := by rw [Nat.mul_comm, Nat.mul_add_div (by omega), Nat.div_eq_of_lt hy, Nat.add_zero]
     have e2 : (x * b + y) % b = y := by rw [Nat.mul_comm, Nat.mul_add_mod, Nat.mod_eq_of_lt hy]
     rw [e1, e2]
   rw [hin] at hrows
   rw [← hrows] at w2
   obtain ⟨z2, ez2, fz2, _⟩ := sum_one (b := 165) (by omega) (by omega) (fun p hp => by
    obtain ⟨h1, h2⟩ := hcell p hp
    have := chance_nq d (letters2 h1 h2) (by show 2 ≤ 6; omega)
    exact ⟨this.2.1, Nat.le_trans this.2.2 (Nat.pow_le_pow_right (by omega) (by show 149 + 4 * 2 + 4 ≤ 165; omega))⟩) w2 (by omega)
   have ez2 : laws_b10Gap (dSum t (b * b)) 4607182418800017408 = some z2 := ez2
   -- the letters that come next
   have hB1 := rounds_forS (f := laws_FnChances_B1 (nextL a b fs ss hs w, true)) (fun j (s : Nat) => (s, ((j : Nat) : Int))) (fun j s => fop .add .f64 s (fconv .f32 .f64 ((nextL a b fs ss hs w).getD j 0))) id (n := b) (fun _ _ => True)
    (fun j s hj _ => ⟨by
     unfold laws_FnChances_B1
     simp only [lenI, Int.toNat_natCast, hlN, ltN hj, cond_true, nextN hj (show b ≤ 4294967296 by omega)]
     rw [guard_pos (idxN hj)], trivial⟩)
    (fun s _ => by
     unfold laws_FnChances_B1
     simp only [lenI, hlN, geN (Nat.le_refl _), cond_false]; rfl) b 0 0 (by omega) trivial
   simp only [Int.natCast_zero] at hB1
   have hs1 := forS_sum (t := fun j => fconv .f32 .f64 ((nextL a b fs ss hs w).getD j 0)) b 0
   rw [Nat.zero_add] at hs1
   have hs1 : forS (fun j s => fop .add .f64 s (fconv .f32 .f64 ((nextL a b fs ss hs w).getD j 0))) b 0 0 = dSum (fun j => fconv .f32 .f64 ((nextL a b fs ss hs w).getD j 0)) b := hs1
   have hng : ∀ c, c < b → (nextL a b fs ss hs w).getD c 0 = fop .quo .f32 (letF b hs (rowAt a b fs ss hs w w.length) c a) C := fun c hc => by rw [nextL_get hc, hCg]
   have n1 : Nq 300 (sumQ (fun c => wS ((nextL a b fs ss hs w).getD c 0)) b) 1 := by
    rw [sumQ_congr b fun c hc => by rw [hng c hc]]
    exact n1
   obtain ⟨z3, ez3, _, fz3⟩ := sum_one (x := fun j => (nextL a b fs ss hs w).getD j 0) (n := b) (b := 150) (K := 300) (by omega) (by omega) (fun p hp => by
    have h0 := fun c (hc : c < b) => (show (nextL a b fs ss hs w).getD c 0 ≤ 2130706432 by rw [hng c hc]; exact nf c hc)
    refine ⟨h0 p hp, V_of_w (h0 p hp) ?_⟩
    have t3 := rp_tight 300 (by omega)
    rw [show ((300 : Nat) : Rat) = 300 from rfl] at t3
    have := sumQ_ge b (fun i hi => wS_nn (h0 i hi)) p hp
    have := n1.1
    grind) n1 (by omega)
   simp only [hB3.1, hB3.2, Option.bind_some, eN, d3, Bool.not_true, cond_false, ez2, fz2, hB1.1, id, hs1, ez3, fz3]

end Go.Proofs
