/-
  Slices cut, literals of structs, and small operations.
-/
import Derived.Test.YthkikckjkhnmlaaIdeG
namespace Go.Ide

section
variable {P : Program} {g : GM} {m : Mem} {S : Nat → Prop} {w : World}

def OR (g : GM) (m : Mem) (S : Nat → Prop) (w : World) : Option IVal → Option Value → Prop
  | none, none => True
  | some v, some u => VR g m S w v u
  | _, _ => False

theorem loI_val {lo : Option IVal} {lv : Option Value} {l : Int} (h : loI lo = some l) (hr : OR g m S w lo lv) : (lv = none ∧ l = 0) ∨ ∃ k, lv = some (.int k l) := by
  unfold loI at h
  split at h
  · cases lv with
    | none => injection h with h; exact .inl ⟨rfl, h.symm⟩
    | some => exact hr.elim
  · rename_i k n
    cases lv with
    | none => exact hr.elim
    | some v =>
      injection h with h
      subst h
      exact .inr ⟨k, by rw [dat_int (g := g) (m := m) (S := S) (w := w) hr]⟩
  · cases h

theorem hiI_val {hi : Option IVal} {hv : Option Value} {len : Nat} {h : Int} (he : hiI len hi = some h) (hr : OR g m S w hi hv) : (hv = none ∧ h = len) ∨ ∃ k, hv = some (.int k h) := by
  unfold hiI at he
  split at he
  · cases hv with
    | none => injection he with he; exact .inl ⟨rfl, he.symm⟩
    | some => exact hr.elim
  · rename_i k n
    cases hv with
    | none => exact hr.elim
    | some v =>
      injection he with he
      subst he
      exact .inr ⟨k, by rw [dat_int (g := g) (m := m) (S := S) (w := w) hr]⟩
  · cases he

theorem run_bounds {lv hv : Option Value} {l h : Int} {len cap : Nat} {b : Bool} (hl : (lv = none ∧ l = 0) ∨ ∃ k, lv = some (.int k l)) (hh : (hv = none ∧ h = len) ∨ ∃ k, hv = some (.int k h))
    (h0 : 0 ≤ l) (h1 : l ≤ h) (h2 : h ≤ (len : Int)) (h3 : len ≤ cap) : (Instr.sliceBounds b len cap lv hv none).run P w = .ok (l.toNat, h.toNat, cap) w := by
  have e1 : l ≤ ((h.toNat : Nat) : Int) := by omega
  have e2 : h ≤ (cap : Int) := by omega
  have e3 : 0 ≤ h := by omega
  have e4 : ¬ (max h 0 < l) := by omega
  rcases hl with ⟨rfl, rfl⟩ | ⟨k, rfl⟩ <;> rcases hh with ⟨rfl, hx⟩ | ⟨k', rfl⟩
  · subst hx; simp [Instr.sliceBounds]
  · simp [Instr.sliceBounds, Instr.sliceBound, asIntOf, e3, e2]
  · subst hx; simp [Instr.sliceBounds, Instr.sliceBound, asIntOf, h0, h1]
  · simp [Instr.sliceBounds, Instr.sliceBound, asIntOf, h0, e2, e3, e4]

theorem foldl_set (off : Nat) : ∀ (vs : List Value) (k : Nat) (arr : Array Value), off + k + vs.length ≤ arr.size →
    ((vs.zipIdx k).foldl (fun cs (p : Value × Nat) => cs.setIfInBounds (off + p.2) p.1) arr).toList = arr.toList.take (off + k) ++ vs ++ arr.toList.drop (off + k + vs.length)
  | [], k, arr, h => by simp
  | v :: vs, k, arr, h => by
    simp only [List.zipIdx_cons, List.foldl_cons]
    simp only [List.length_cons] at h
    rw [foldl_set off vs (k + 1) _ (by simp; omega)]
    have hlt : off + k < arr.toList.length := by simp; omega
    simp only [Array.toList_setIfInBounds, List.length_cons]
    rw [List.drop_set_of_lt (by omega), show off + (k + 1) = off + k + 1 from by omega, List.take_set, List.take_succ_eq_append_getElem hlt,
      List.set_append_right _ _ (by simp; omega)]
    simp [show off + k + 1 + vs.length = off + k + (vs.length + 1) from by omega, Nat.min_eq_left (Nat.le_of_lt (show off + k < arr.size by simpa using hlt))]

theorem fill_rel (place : Nat → Option (Nat × Nat)) : ∀ {parts : List (Nat × IVal)} {vparts : List (Nat × Value)} {ics r : List ICell} {arr : Array Value},
    fillI place ics parts = some r → All2 (CR g m S w) ics arr.toList → All2 (fun (p : Nat × IVal) (q : Nat × Value) => p.1 = q.1 ∧ VR g m S w p.2 q.2) parts vparts →
    ∃ arr', Instr.fill place arr vparts = some arr' ∧ All2 (CR g m S w) r arr'.toList
  | [], [], ics, r, arr, h, hc, _ => by
    simp only [fillI] at h; injection h with h; subst h
    exact ⟨arr, rfl, hc⟩
  | (i, v) :: parts, (j, u) :: vparts, ics, r, arr, h, hc, hp => by
    obtain ⟨⟨hij, hv⟩, hrest⟩ := hp
    have hij : i = j := hij
    subst hij
    simp only [fillI] at h
    cases hpl : place i with
    | none => simp [hpl] at h
    | some p =>
      obtain ⟨off, size⟩ := p
      simp only [hpl] at h
      cases hb : ((v.cells.length.beq size && (off + v.cells.length).ble ics.length) && v.ok) with
      | false => simp [hb] at h
      | true =>
        rw [hb] at h
        simp only [cond_true] at h
        simp only [Bool.and_eq_true] at hb
        have h1 := beq_of hb.1.1
        have h2 := ble_of hb.1.2
        obtain ⟨vs, hu, hvs⟩ := cells_rel hb.2 hv
        have hlen := hvs.length
        have hics := hc.length
        simp only [Array.length_toList] at hics
        have husz : u.cells.size = vs.length := by rw [← Array.length_toList, hu]
        have hfold : (u.cells.zipIdx.foldl (fun cs (p : Value × Nat) => cs.setIfInBounds (off + p.2) p.1) arr).toList = arr.toList.take off ++ vs ++ arr.toList.drop (off + vs.length) := by
          have := foldl_set off vs 0 arr (by omega)
          rw [← Array.foldl_toList, Array.toList_zipIdx, hu]
          simpa using this
        have hc' : All2 (CR g m S w) (ics.take off ++ v.cells ++ ics.drop (off + v.cells.length)) (u.cells.zipIdx.foldl (fun cs (p : Value × Nat) => cs.setIfInBounds (off + p.2) p.1) arr).toList := by
          rw [hfold, ← hlen]
          exact ((hc.take off).append hvs).append (hc.drop _)
        obtain ⟨arr', e1, e2⟩ := fill_rel place h hc' hrest
        refine ⟨arr', ?_, e2⟩
        simp only [Instr.fill, hpl]
        rw [if_neg (by simp; omega)]
        exact e1
  | [], _ :: _, _, _, _, _, _, hp => hp.elim
  | _ :: _, [], _, _, _, _, _, hp => hp.elim

theorem cut_length {α : Type} {xs : List α} {l h : Int} (h0 : 0 ≤ l) (h1 : l ≤ h) (h2 : h ≤ (xs.length : Int)) : (cut xs l h).length = h.toNat - l.toNat := by
  unfold cut
  simp
  omega

theorem cut_get {α : Type} {xs : List α} {l h : Int} {i : Nat} (hi : i < (cut xs l h).length) (hj : l.toNat + i < xs.length) : (cut xs l h)[i] = xs[l.toNat + i] := by
  have hk : i < h.toNat - l.toNat := by have := hi; simp [cut] at this; omega
  have e : (cut xs l h)[i]? = xs[l.toNat + i]? := by
    unfold cut
    rw [List.getElem?_take, if_pos hk, List.getElem?_drop]
  rw [List.getElem?_eq_getElem hi, List.getElem?_eq_getElem hj] at e
  exact Option.some.inj e

theorem toNat_of_eq {l : Int} {n : Nat} (h : n = l.toNat) (h0 : 0 ≤ l) : (n : Int) = l := by omega

theorem run_slice_sl {T el : TypeId} {k : Nat} (hu : P.underlying T = some (.slice el)) (hs : sizeT P el = some k) {a : Option Addr} {len cap : Nat} {lv hv : Option Value} {l h : Int}
    (hl : (lv = none ∧ l = 0) ∨ ∃ k, lv = some (.int k l)) (hh : (hv = none ∧ h = len) ∨ ∃ k, hv = some (.int k h))
    (h0 : 0 ≤ l) (h1 : l ≤ h) (h2 : h ≤ (len : Int)) (h3 : len ≤ cap) :
    (Instr.sliceAt T (.slice a len cap) lv hv none).run P w = .ok (.slice (if cap = l.toNat then a else a.map (·.add (l.toNat * k))) (h.toNat - l.toNat) (cap - l.toNat)) w := by
  simp [Instr.sliceAt, Instr.slice, run_underlying hu, run_bounds hl hh h0 h1 h2 h3, run_sizeT hs]

theorem iSlice_sound {T : TypeId} {x : IVal} {lo hi : Option IVal} {e : Eff} {xa : Value} {lv hv : Option Value} (hm : ChAll g m S w) (h : iSlice P m T x lo hi = some e) (hc : AllP e.cond)
    (hx : VR g m S w x xa) (hlo : OR g m S w lo lv) (hhi : OR g m S w hi hv) : Gives P g m S w (Instr.sliceAt T xa lv hv none) e := by
  unfold iSlice at h
  split at h
  · rename_i xs hu
    split at h
    · rename_i l h' hl hh
      obtain ⟨he, hco⟩ := pureC_eq h
      rw [hco] at hc
      obtain ⟨⟨h0, h1, h2⟩, _⟩ := hc
      have hxa := dat_str (g := g) (m := m) (S := S) (w := w) hx
      subst hxa
      have hl' := loI_val hl hlo
      have hh' := hiI_val hh hhi
      refine Gives.mk he (r := .string ⟨(cut xs l h').toArray⟩) ?_ rfl
      have hsz : (⟨xs.toArray⟩ : ByteArray).size = List.length xs := by simp [ByteArray.size]
      have hb := run_bounds (P := P) (w := w) (b := false) (len := (⟨xs.toArray⟩ : ByteArray).size) (cap := (⟨xs.toArray⟩ : ByteArray).size) hl' (by rw [hsz]; exact hh') h0 h1 (by rw [hsz]; exact h2) (Nat.le_refl _)
      simp only [Instr.sliceAt, Instr.slice, Sem.run_bind, run_underlying hu, Result.andThen_ok, hb]
      simp [hb, cut, ByteArray.ext_iff]
    · cases h
  · rename_i el t xs hu
    split at h
    · rename_i l h' hl hh
      cases hb : (sizeT P el == some t.size) with
      | false => simp [hb] at h
      | true =>
        rw [hb] at h
        simp only [cond_true] at h
        have hs : sizeT P el = some t.size := by simpa using hb
        obtain ⟨he, hco⟩ := pureC_eq h
        rw [hco] at hc
        obtain ⟨⟨h0, h1, h2⟩, _⟩ := hc
        obtain ⟨a, cap, e1, hcap, hel⟩ := hx
        have hxa : xa = .slice a (List.length xs) cap := by simpa using e1
        subst hxa
        have hl' := loI_val hl hlo
        have hh' := hiI_val hh hhi
        have hlen := cut_length (xs := xs) h0 h1 h2
        refine Gives.mk he (run_slice_sl hu hs hl' hh' h0 h1 h2 hcap) ?_
        refine ⟨if cap = l.toNat then a else a.map (·.add (l.toNat * t.size)), cap - l.toNat, by rw [hlen], by rw [hlen]; omega, fun i hi => ?_⟩
        have hi' : i < h'.toNat - l.toNat := by rw [hlen] at hi; exact hi
        have hj : l.toNat + i < List.length xs := by omega
        obtain ⟨ad, es, ea, hS, hcell, hrep⟩ := hel (l.toNat + i) hj
        subst ea
        refine ⟨ad.add (l.toNat * t.size), es, by rw [if_neg (by omega)]; rfl, by rw [add_block]; exact hS, fun j u hu => ?_, ?_⟩
        · rw [add_add, ← Nat.add_assoc, ← Nat.add_mul]; exact hcell j u hu
        · rw [cut_get hi hj]; exact hrep
    · cases h
  · rename_i el c hu
    split at h
    · rename_i t xs hlk
      split at h
      · rename_i l h' hl hh
        cases hb : (sizeT P el == some t.size) with
        | false => simp [hb] at h
        | true =>
          rw [hb] at h
          simp only [cond_true] at h
          have hs : sizeT P el = some t.size := by simpa using hb
          obtain ⟨he, hco⟩ := pureC_eq h
          rw [hco] at hc
          obtain ⟨⟨h0, h1, h2⟩, _⟩ := hc
          have hl' := loI_val hl hlo
          have hh' := hiI_val hh hhi
          have hall := hx.2.2 t xs hlk
          unfold AllR at hall
          cases hg : g c with
          | none =>
            rw [hg] at hall
            obtain ⟨a, ha⟩ := hall
            subst ha
            have hch := hm c _ hlk
            rw [hg] at hch
            have : xs = [] := hch
            subst this
            have hl0 : l = 0 := by simp at h2; omega
            have hh0 : h' = 0 := by simp at h2; omega
            subst hl0
            subst hh0
            refine Gives.mk he (run_slice_sl (cap := 0) hu hs hl' hh' h0 h1 h2 (Nat.le_refl _)) ⟨hx.1, rfl, fun t' xs' hlk' => ?_⟩
            exact ⟨by simp, .inl ⟨by simp, fun _ => hg, a, by simp⟩⟩
          | some b =>
            rw [hg] at hall
            obtain ⟨cap, arr, e1, hcap, hbl, hfit, hmax⟩ := hall
            subst e1
            refine Gives.mk he (run_slice_sl hu hs hl' hh' h0 h1 h2 hcap) ⟨hx.1, rfl, fun t' xs' hlk' => ?_⟩
            rw [hlk] at hlk'
            injection hlk' with hlk'
            injection hlk' with ht hxs
            subst ht
            have hxs := eq_of_heq hxs
            subst hxs
            refine ⟨by omega, ?_⟩
            by_cases hcl : cap = l.toNat
            · by_cases hl0 : l.toNat = 0
              · right
                refine ⟨b, 0, arr, hg, ?_, by omega, hbl, by rw [hl0]; simp, by omega⟩
                rw [if_pos hcl, hl0, Nat.zero_mul]
                congr 1 <;> omega
              · left
                refine ⟨by omega, fun hz => absurd hz hl0, some ⟨b, 0, none⟩, ?_⟩
                rw [if_pos hcl]
                congr 1 <;> omega
            · right
              refine ⟨b, cap - l.toNat, arr, hg, ?_, by omega, hbl, by rw [show l.toNat + (cap - l.toNat) = cap from by omega]; exact hfit, by omega⟩
              rw [if_neg hcl]
              simp [add_none]
      · cases h
    · cases h
  · rename_i el c off len hu
    split at h
    · rename_i t xs hlk
      split at h
      · rename_i l h' hl hh
        cases hb : (sizeT P el == some t.size) with
        | false => simp [hb] at h
        | true =>
          rw [hb] at h
          simp only [cond_true] at h
          have hs : sizeT P el = some t.size := by simpa using hb
          obtain ⟨he, hco⟩ := pureC_eq h
          rw [hco] at hc
          obtain ⟨⟨h0, h1, h2⟩, _⟩ := hc
          have hl' := loI_val hl hlo
          have hh' := hiI_val hh hhi
          obtain ⟨hle, hx'⟩ := hx.2.2 t xs hlk
          rcases hx' with ⟨hz0, hz1, a, ha⟩ | ⟨b, cap, arr, hg, e1, hcap, hbl, hfit, hmax⟩
          · subst ha
            subst hz0
            have hl0 : l = 0 := by omega
            have hh0 : h' = 0 := by omega
            subst hl0
            subst hh0
            refine Gives.mk he (run_slice_sl (cap := 0) hu hs hl' hh' h0 h1 h2 (Nat.le_refl _)) ⟨hx.1, rfl, fun t' xs' hlk' => ?_⟩
            rw [hlk] at hlk'
            injection hlk' with hlk'
            injection hlk' with ht hxs
            subst ht
            have hxs := eq_of_heq hxs
            subst hxs
            exact ⟨by simp; omega, .inl ⟨by simp, fun hz => hz1 (by simpa using hz), a, by simp⟩⟩
          · subst e1
            refine Gives.mk he (run_slice_sl hu hs hl' hh' h0 h1 h2 hcap) ⟨hx.1, rfl, fun t' xs' hlk' => ?_⟩
            rw [hlk] at hlk'
            injection hlk' with hlk'
            injection hlk' with ht hxs
            subst ht
            have hxs := eq_of_heq hxs
            subst hxs
            refine ⟨by omega, ?_⟩
            by_cases hcl : cap = l.toNat
            · by_cases hl0 : off + l.toNat = 0
              · right
                have ho0 : off = 0 := by omega
                have hl1 : l.toNat = 0 := by omega
                refine ⟨b, 0, arr, hg, ?_, by omega, hbl, by rw [hl0]; simp, by omega⟩
                rw [if_pos hcl, ho0, hl1]
                simp only [Nat.zero_mul, Nat.add_zero]
                congr 1 <;> omega
              · left
                refine ⟨by omega, fun hz => absurd hz hl0, some ⟨b, off * t.size, none⟩, ?_⟩
                rw [if_pos hcl]
                congr 1 <;> omega
            · right
              refine ⟨b, cap - l.toNat, arr, hg, ?_, by omega, hbl, by rw [show off + l.toNat + (cap - l.toNat) = off + cap from by omega]; exact hfit, by omega⟩
              rw [if_neg hcl]
              simp [add_none, Nat.add_mul]
      · cases h
    · cases h
  · cases h

end
end Go.Ide
