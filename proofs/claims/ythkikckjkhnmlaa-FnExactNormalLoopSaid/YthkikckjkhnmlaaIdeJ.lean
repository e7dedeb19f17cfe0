/-
  Operations that make or write slices.
-/
import Derived.Test.YthkikckjkhnmlaaIdeI
namespace Go.Ide

theorem Ty.size_pos : ∀ (t : Ty), 0 < t.size
  | .int _ => Nat.one_pos
  | .flt _ => Nat.one_pos
  | .bool => Nat.one_pos
  | .str => Nat.one_pos
  | .sl _ => Nat.one_pos
  | .pair a _ => Nat.lt_of_lt_of_le (Ty.size_pos a) (Nat.le_add_right _ _)
  | .st t => Ty.size_pos t

/-- Elements laid side by side. -/
theorem gather {sz : Nat} {Q : Nat → List Value → Prop} : ∀ (n : Nat), (∀ i, i < n → ∃ es, es.length = sz ∧ Q i es) →
    ∃ l : List Value, l.length = n * sz ∧ ∀ i, i < n → ∃ es, es.length = sz ∧ Q i es ∧ ∀ j, j < sz → l[i * sz + j]? = es[j]?
  | 0, _ => ⟨[], by simp, fun i hi => by omega⟩
  | n + 1, h => by
    obtain ⟨l, hl, hq⟩ := gather n fun i hi => h i (by omega)
    obtain ⟨es, he, hes⟩ := h n (by omega)
    refine ⟨l ++ es, by simp [hl, he, Nat.add_mul], fun i hi => ?_⟩
    by_cases hin : i = n
    · subst hin
      refine ⟨es, he, hes, fun j hj => ?_⟩
      rw [List.getElem?_append_right (by omega)]
      congr 1
      omega
    · obtain ⟨es', h1, h2, h3⟩ := hq i (by omega)
      refine ⟨es', h1, h2, fun j hj => ?_⟩
      rw [List.getElem?_append_left]
      · exact h3 j hj
      · rw [hl]
        have : (i + 1) * sz ≤ n * sz := Nat.mul_le_mul_right _ (by omega)
        rw [Nat.add_mul] at this
        omega

section
variable {P : Program} {g : GM} {m : Mem} {S S2 : Nat → Prop} {w : World}

/-- Elements in a list of cells. -/
def ElsL (S : Nat → Prop) (w : World) (t : Ty) (xs : List t.D) (l : List Value) : Prop :=
  ∀ i (h : i < xs.length), ∃ es, (∀ j, j < t.size → l[i * t.size + j]? = es[j]?) ∧ Rep S w t es xs[i]

theorem ElsL.toR {t : Ty} {xs : List t.D} {arr : Array Value} (h : ElsL S w t xs arr.toList) : ElsR S w t xs arr := fun i hi => by
  obtain ⟨es, h1, h2⟩ := h i hi
  refine ⟨es, fun j v hv => ?_, h2⟩
  have hj : j < t.size := by rw [← Rep.len t es _ h2]; exact (List.getElem?_eq_some_iff.1 hv).1
  rw [← Array.getElem?_toList, h1 j hj]
  exact hv

theorem ElsR.toL {t : Ty} {xs : List t.D} {arr : Array Value} (h : ElsR S w t xs arr) : ElsL S w t xs arr.toList := fun i hi => by
  obtain ⟨es, h1, h2⟩ := h i hi
  refine ⟨es, fun j hj => ?_, h2⟩
  have hj' : j < es.length := by rw [Rep.len t es _ h2]; exact hj
  rw [Array.getElem?_toList, h1 j es[j] (List.getElem?_eq_getElem hj')]
  rw [List.getElem?_eq_getElem hj']

theorem ElsL.app {t : Ty} {xs ys : List t.D} {l1 l2 rest : List Value} (h1 : ElsL S w t xs l1) (hl : l1.length = xs.length * t.size) (h2 : ElsL S w t ys l2) (hl2 : l2.length = ys.length * t.size) :
    ElsL S w t (xs ++ ys) (l1 ++ l2 ++ rest) := fun i hi => by
  by_cases hx : i < xs.length
  · obtain ⟨es, k1, k2⟩ := h1 i hx
    refine ⟨es, fun j hj => ?_, by rw [List.getElem_append_left hx]; exact k2⟩
    have : (i + 1) * t.size ≤ xs.length * t.size := Nat.mul_le_mul_right _ (by omega)
    rw [Nat.add_mul] at this
    rw [List.append_assoc, List.getElem?_append_left (by omega)]
    exact k1 j hj
  · have hi' : i - xs.length < ys.length := by rw [List.length_append] at hi; omega
    obtain ⟨es, k1, k2⟩ := h2 (i - xs.length) hi'
    refine ⟨es, fun j hj => ?_, by rw [List.getElem_append_right (by omega)]; exact k2⟩
    have hmul : i * t.size = (i - xs.length) * t.size + xs.length * t.size := by rw [← Nat.add_mul]; congr 1; omega
    have : (i - xs.length + 1) * t.size ≤ ys.length * t.size := Nat.mul_le_mul_right _ (by omega)
    rw [Nat.add_mul] at this
    rw [List.append_assoc, List.getElem?_append_right (by omega), List.getElem?_append_left (by omega)]
    rw [← k1 j hj]
    congr 1
    omega

theorem ElsL.take {t : Ty} {xs : List t.D} {l : List Value} {n : Nat} (h : ElsL S w t xs l) (hn : n ≤ xs.length) : ElsL S w t (xs.take n) (l.take (n * t.size)) := fun i hi => by
  have hi' : i < n := by rw [List.length_take] at hi; omega
  obtain ⟨es, k1, k2⟩ := h i (by omega)
  refine ⟨es, fun j hj => ?_, by rw [List.getElem_take]; exact k2⟩
  have : (i + 1) * t.size ≤ n * t.size := Nat.mul_le_mul_right _ (by omega)
  rw [Nat.add_mul] at this
  rw [List.getElem?_take, if_pos (by omega)]
  exact k1 j hj

/-- The cells of a slice's data. -/
theorem Rep.gather {t : Ty} {xs : List t.D} {v : Value} (h : Rep S w (.sl t) [v] xs) :
    ∃ a cap news, v = .slice a xs.length cap ∧ xs.length ≤ cap ∧ news.length = xs.length * t.size ∧ ElsL S w t xs news ∧ (∀ u ∈ news, u.oneCell' = true) ∧
      (xs = [] ∨ ∃ ad, a = some ad ∧ ∀ k u, news[k]? = some u → w.cell? (ad.add k) = some u) := by
  obtain ⟨a, cap, e, hc, hel⟩ := h
  have e : v = .slice a (List.length xs) cap := by simpa using e
  subst e
  obtain ⟨l, hl, hq⟩ := Ide.gather (sz := t.size) (Q := fun i es => ∃ h : i < List.length xs, ∃ ad, a = some ad ∧ (∀ j u, es[j]? = some u → w.cell? (ad.add (i * t.size + j)) = some u) ∧ Rep S w t es xs[i]) (List.length xs) fun i hi => by
    obtain ⟨ad, es, ea, _, h1, h2⟩ := hel i hi
    exact ⟨es, Rep.len t es _ h2, hi, ad, ea, h1, h2⟩
  have hsz := t.size_pos
  have hcell : ∀ k u, l[k]? = some u → ∃ ad, a = some ad ∧ w.cell? (ad.add k) = some u ∧ u.oneCell' = true := by
    intro k u hk
    have hlt : k < List.length xs * t.size := by rw [← hl]; exact (List.getElem?_eq_some_iff.1 hk).1
    have hi : k / t.size < List.length xs := Nat.div_lt_of_lt_mul (by rw [Nat.mul_comm]; exact hlt)
    obtain ⟨es, he, ⟨_, ad, ea, h1, h2⟩, h3⟩ := hq (k / t.size) hi
    have hmod : k % t.size < t.size := Nat.mod_lt _ hsz
    have hk2 : k / t.size * t.size + k % t.size = k := by rw [Nat.mul_comm]; exact Nat.div_add_mod k t.size
    have h4 := h3 (k % t.size) hmod
    rw [hk2, hk] at h4
    refine ⟨ad, ea, ?_, ?_⟩
    · have := h1 (k % t.size) u h4.symm
      rw [hk2] at this
      exact this
    · exact Rep.ones t h2 u (List.mem_of_getElem? h4.symm)
  refine ⟨a, cap, l, rfl, hc, hl, fun i hi => ?_, fun u hu => ?_, ?_⟩
  · obtain ⟨es, he, ⟨_, ad, ea, h1, h2⟩, h3⟩ := hq i hi
    exact ⟨es, h3, h2⟩
  · obtain ⟨k, hk, e⟩ := List.getElem_of_mem hu
    obtain ⟨_, _, _, h⟩ := hcell k u (by rw [List.getElem?_eq_getElem hk, e])
    exact h
  · cases hx : xs with
    | nil => exact .inl rfl
    | cons x r =>
      right
      obtain ⟨ad, es, ea, _⟩ := hel 0 (by rw [hx]; simp)
      refine ⟨ad, ea, fun k u hk => ?_⟩
      obtain ⟨ad', ea', h, _⟩ := hcell k u hk
      rw [ea] at ea'
      injection ea' with ea'
      subst ea'
      exact h

theorem KeepF.setCell (w : World) (p : Addr) (v : Value) : KeepF [p.block] w (w.setCell p v) :=
  ⟨rfl, rfl, rfl, by simp, fun q _ hn => RowKit.Below.heap_setCell w p v q (by simpa using hn), fun b arr hb => by
    by_cases e : b = p.block
    · subst e
      obtain ⟨T, fz, hh, hf⟩ := hb
      refine ⟨if p.spot.isSome then arr else arr.setIfInBounds p.off v, ⟨T, fz, by simp [World.setCell, Array.getElem?_modify, hh], fun q hq => ?_⟩, by split <;> simp⟩
      rw [World.frozen?_setCell]
      refine hf q ?_
      split at hq
      · exact hq
      · simpa using hq
    · exact ⟨arr, hb.keep (RowKit.Below.heap_setCell w p v b e), rfl⟩⟩

/-- A row of cells written. -/
theorem run_storeCells_blk {b : Nat} : ∀ (vs : List Value) (o i : Nat) (w : World) (arr : Array Value), blk w b arr → o + i + vs.length ≤ arr.size → (∀ v ∈ vs, v.oneCell' = true) →
    ∃ w' arr', (storeCells ⟨b, o, none⟩ vs i).run P w = .ok () w' ∧ blk w' b arr' ∧ arr'.toList = arr.toList.take (o + i) ++ vs ++ arr.toList.drop (o + i + vs.length) ∧ KeepF [b] w w' ∧ w'.heap.size = w.heap.size
  | [], o, i, w, arr, hb, _, _ => ⟨w, arr, rfl, hb, by simp, KeepF.refl _ _, rfl⟩
  | v :: vs, o, i, w, arr, hb, hle, h1 => by
    simp only [List.length_cons] at hle
    have hlt : o + i < arr.size := by omega
    have hst : (store ((⟨b, o, none⟩ : Addr).add i) v).run P w = .ok () (w.setCell ⟨b, o + i, none⟩ v) := by
      rw [add_none, run_store P w _ v _ (h1 v (by simp)), hb.cell, Array.getElem?_eq_getElem hlt]
      obtain ⟨T, fz, hh, hf⟩ := hb
      simp [hf _ hlt]
    have hb' : blk (w.setCell ⟨b, o + i, none⟩ v) b (arr.setIfInBounds (o + i) v) := by
      obtain ⟨T, fz, hh, hf⟩ := hb
      refine ⟨T, fz, by simp [World.setCell, Array.getElem?_modify, hh], fun q hq => ?_⟩
      rw [World.frozen?_setCell]
      exact hf q (by simpa using hq)
    obtain ⟨w', arr', e, k1, k2, k3, k4⟩ := run_storeCells_blk vs o (i + 1) (w.setCell ⟨b, o + i, none⟩ v) _ hb' (by simp; omega) (fun x hx => h1 x (by simp [hx]))
    refine ⟨w', arr', ?_, k1, ?_, KeepF.trans (KeepF.setCell w ⟨b, o + i, none⟩ v) k3, by rw [k4]; simp⟩
    · simp only [storeCells, Sem.run_bind, hst, Result.andThen_ok, e]
    · have hlt' : o + i < arr.toList.length := by simpa using hlt
      rw [k2]
      simp only [Array.toList_setIfInBounds, List.length_cons]
      rw [List.drop_set_of_lt (by omega), show o + (i + 1) = o + i + 1 from by omega, List.take_set, List.take_succ_eq_append_getElem hlt', List.set_append_right _ _ (by simp; omega)]
      simp [show o + i + 1 + vs.length = o + i + (vs.length + 1) from by omega, Nat.min_eq_left (Nat.le_of_lt hlt)]

theorem run_firstCells_of {size n : Nat} {a : Option Addr} {len cap : Nat} {cs : List Value} (hl : cs.length = n * size) (h : n = 0 ∨ ∃ ad, a = some ad ∧ ∀ j v, cs[j]? = some v → w.cell? (ad.add j) = some v) :
    (Builtin.firstCells size n (.slice a len cap)).run P w = .ok cs.toArray w := by
  rcases h with rfl | ⟨ad, rfl, h⟩
  · have : cs = [] := List.eq_nil_of_length_eq_zero (by simpa using hl)
    subst this
    cases a with
    | none => simp [Builtin.firstCells]
    | some ad => simp [Builtin.firstCells, loadCells, loadCellsFrom]
  · exact run_firstCells_some w size n ad len cap cs hl h

theorem run_app_grow {t ty e : TypeId} {i : TypeInfo} {z : Value} (ht : P.underlying t = some (.slice e)) (hi : P.info? e = some i) (hz : i.zero = some z)
    {base : Option Addr} {n cap : Nat} {olds : List Value} (hlo : olds.length = n * i.size) (ho : n = 0 ∨ ∃ ad, base = some ad ∧ ∀ j v, olds[j]? = some v → w.cell? (ad.add j) = some v)
    {a : Option Addr} {k c : Nat} {news : List Value} (hl : news.length = k * i.size) (hn : k = 0 ∨ ∃ ad, a = some ad ∧ ∀ j v, news[j]? = some v → w.cell? (ad.add j) = some v)
    (hg : cap < n + k) (hb : (n + k) * i.bytes ≤ 140737488355328) (h63 : n + k ≤ 9223372036854775807) :
    (Builtin.append_ #[t, t] ty #[.slice base n cap, .slice a k c]).run P w =
      .ok (.slice (some ⟨w.heap.size, 0, none⟩) (n + k) (grownCap w (n + k) cap e))
        (w.drew.alloc (.cells (olds.toArray ++ news.toArray ++ Builtin.zeroCells z.cells (grownCap w (n + k) cap e - (n + k))) e)) := by
  have hroom : ¬ (n + k ≤ cap) := by omega
  have h63' : ¬ (9223372036854775807 < ((n : Int) + (k : Int))) := by omega
  have h48 := growslice_fits (old := cap) hg hb
  have h48' : ¬ (281474976710656 < Builtin.nextslicecap (n + k) cap * i.bytes) := by omega
  have hf := run_firstCells_of (P := P) (w := w.drew) (len := k) (cap := c) hl hn
  have hfo := run_firstCells_of (P := P) (w := w.drew) (len := n) (cap := cap) hlo ho
  simp [Builtin.append_, run_underlying ht, sizeOf, typeInfo, zeroValue, hi, hz, Builtin.lenOf, hroom, h63', h48', Question.forced, hf, hfo, newRow, grownCap]
  congr 2
  apply Array.ext'
  simp [List.append_assoc]

theorem run_app_room {t ty e : TypeId} {i : TypeInfo} (ht : P.underlying t = some (.slice e)) (hi : P.info? e = some i) {b n cap : Nat} {arr : Array Value} (hb : blk w b arr)
    {a : Option Addr} {k c : Nat} {news : List Value} (hl : news.length = k * i.size) (hn : k = 0 ∨ ∃ ad, a = some ad ∧ ∀ j v, news[j]? = some v → w.cell? (ad.add j) = some v) (h1 : ∀ u ∈ news, u.oneCell' = true)
    (hroom : n + k ≤ cap) (hfit : (n + k) * i.size ≤ arr.size) :
    ∃ w' arr', (Builtin.append_ #[t, t] ty #[.slice (some ⟨b, 0, none⟩) n cap, .slice a k c]).run P w = .ok (.slice (some ⟨b, 0, none⟩) (n + k) cap) w' ∧ blk w' b arr' ∧
      arr'.toList = arr.toList.take (n * i.size) ++ news ++ arr.toList.drop (n * i.size + news.length) ∧ KeepF [b] w w' ∧ w'.heap.size = w.heap.size := by
  have hf := run_firstCells_of (P := P) (w := w) (len := k) (cap := c) hl hn
  obtain ⟨w', arr', e, k1, k2, k3, k4⟩ := run_storeCells_blk (P := P) news (n * i.size) 0 w arr hb (by rw [hl, Nat.add_zero, ← Nat.add_mul]; exact hfit) h1
  refine ⟨w', arr', ?_, k1, by simpa using k2, k3, k4⟩
  have ha : (⟨b, 0, none⟩ : Addr).add (n * i.size) = ⟨b, n * i.size, none⟩ := by rw [add_none]; simp
  simp [Builtin.append_, run_underlying ht, sizeOf, typeInfo, hi, Builtin.lenOf, hroom, hf, ha, e]

theorem run_app_none {t ty e : TypeId} {i : TypeInfo} (ht : P.underlying t = some (.slice e)) (hi : P.info? e = some i) {base a : Option Addr} {c : Nat} :
    (Builtin.append_ #[t, t] ty #[.slice base 0 0, .slice a 0 c]).run P w = .ok (.slice base 0 0) w := by
  have hf := run_firstCells_of (P := P) (w := w) (size := i.size) (n := 0) (a := a) (len := 0) (cap := c) (cs := []) (by simp) (.inl rfl)
  cases base <;> simp [Builtin.append_, run_underlying ht, sizeOf, typeInfo, hi, Builtin.lenOf, hf, storeCells]

end
end Go.Ide
