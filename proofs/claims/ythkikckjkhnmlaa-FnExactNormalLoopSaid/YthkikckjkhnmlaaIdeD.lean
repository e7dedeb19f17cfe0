/-
  A state after a step: a slot written; memory changed.
-/
import Derived.Test.YthkikckjkhnmlaaIdeC
namespace Go.Ide

theorem lk_cons {α : Type} (k k' : Nat) (v : α) (l : List (Nat × α)) : lk k ((k', v) :: l) = if k = k' then some v else lk k l := by
  simp only [lk]
  by_cases h : k = k'
  · subst h; simp
  · have : Nat.beq k k' = false := by rw [← Bool.not_eq_true]; intro e; exact h (Nat.eq_of_beq_eq_true e)
    rw [if_neg h, this]; rfl

theorem lk_nil {α : Type} (k : Nat) : lk k ([] : List (Nat × α)) = none := rfl

theorem lk_append {α : Type} (k : Nat) (l l' : List (Nat × α)) : lk k (l ++ l') = (lk k l).or (lk k l') := by
  induction l with
  | nil => simp [lk_nil]
  | cons p l ih =>
    obtain ⟨k', v⟩ := p
    rw [List.cons_append, lk_cons, lk_cons, ih]
    split <;> simp

def St.put (st : St) (d : Option Tmp) (v : IVal) : St :=
  match d with
  | some t => { st with fr := (t, v) :: st.fr }
  | none => st

def St.setMem (st : St) (m : Mem) (nx : Nat) : St := ⟨st.fr, m, nx⟩

section
variable {cx : Cx} {g g' : GM} {st : St} {a : Act} {w w' : World}

theorem Sim.put (h : Sim cx g st a w) {v : IVal} {val : Value} (hv : VR g st.mem (cx.safe g st.mem w) w v val) (d : Option Tmp) (hd : ∀ t, d = some t → t < cx.N) :
    Sim cx g (st.put d v) (a.put d val) w := by
  cases d with
  | none => exact h
  | some t =>
    have ht : t < a.tmps.size := by rw [h.size]; exact hd t rfl
    refine ⟨h.defers, by simp [Act.put, h.size], fun t' v' hl => ?_, h.mem, h.inj, h.base, h.keep, h.own⟩
    simp only [St.put] at hl
    rw [lk_cons] at hl
    simp only [Act.put, Array.getD_eq_getD_getElem?, Array.getElem?_setIfInBounds]
    by_cases he : t' = t
    · subst he
      rw [if_pos rfl] at hl
      injection hl with hl
      subst hl
      simpa [ht, St.put] using hv
    · rw [if_neg he] at hl
      rw [if_neg (fun e => he e.symm)]
      have := h.fr t' v' hl
      simpa [Array.getD_eq_getD_getElem?, St.put] using this

/-- What has become of memory: each chunk of before is the same, or gone, or has other contents of the same shape; others are new. -/
structure Turn (cx : Cx) (g g' : GM) (m m' : Mem) (w w' : World) (G : List Nat) : Prop where
  keep : KeepF G w w'
  live : ∀ b, b ∈ G → Live g m b
  addr : ∀ k, lk k m ≠ none → g' k = g k
  old : ∀ k ch, lk k m = some ch →
    (lk k m' = some ch ∧ (ch ≠ .gone → ∀ b, g k = some b → b ∉ G)) ∨
    (lk k m' = some .gone) ∨
    (ch ≠ .gone ∧ (∃ ch', lk k m' = some ch' ∧ ch' ≠ .gone ∧ (∀ t xs, ch' = .seq t xs → ∃ xs', ch = .seq t xs' ∧ xs'.length = xs.length) ∧
      (∀ b arr, g k = some b → blk w b arr → ∃ arr', blk w' b arr' ∧ arr'.size = arr.size) ∧
      ChR g' m' (cx.safe g' m' w') w' (g' k) ch'))
  new : ∀ k ch, lk k m = none → lk k m' = some ch → ChR g' m' (cx.safe g' m' w') w' (g' k) ch ∧
    (ch ≠ .gone → ∀ b, g' k = some b → (w.heap.size ≤ b ∨ b ∈ G) ∧ ∀ k' ch', lk k' m' = some ch' → ch' ≠ .gone → g' k' = some b → k' = k)

theorem Turn.notgone {G : List Nat} {m m' : Mem} (t : Turn cx g g' m m' w w' G) {k : Nat} {ch ch' : Chunk} (h : lk k m = some ch) (h' : lk k m' = some ch') (hn : ch' ≠ .gone) : ch ≠ .gone := by
  rintro rfl
  rcases t.old k _ h with ⟨e, _⟩ | e | ⟨hc, _⟩
  · rw [h'] at e; injection e with e; exact hn e
  · rw [h'] at e; injection e with e; exact hn e
  · exact hc rfl

theorem Turn.stays {G : List Nat} {m m' : Mem} (t : Turn cx g g' m m' w w' G) (hlt : ∀ k ch b, lk k m = some ch → ch ≠ .gone → g k = some b → b < w.heap.size) :
    Stays g g' m m' (cx.safe g m w) (cx.safe g' m' w') w w' := by
  refine ⟨fun b hs => ?_, fun c hc => ⟨?_, t.addr c hc⟩, fun c ty xs hc hl => ?_, fun c ty xs b arr hc hl hg hb => ?_⟩
  · obtain ⟨h1, h2, h3⟩ := hs
    have hG : b ∉ G := fun hb => h3 (t.live b hb)
    refine ⟨⟨Nat.lt_of_lt_of_le h1 t.keep.size, h2, ?_⟩, t.keep.block b h1 hG⟩
    rintro ⟨k, ch, hk, hn, hg⟩
    cases ho : lk k m with
    | none =>
      rcases ((t.new k ch ho hk).2 hn b hg).1 with hx | hx
      · omega
      · exact hG hx
    | some c0 =>
      exact h3 ⟨k, c0, ho, t.notgone ho hk hn, by rw [← t.addr k (by rw [ho]; simp)]; exact hg⟩
  · cases ho : lk c m with
    | none => exact absurd ho hc
    | some c0 =>
      rcases t.old c _ ho with ⟨e, _⟩ | e | ⟨_, c', e, _⟩ <;> rw [e] <;> simp
  · cases ho : lk c m with
    | none => exact absurd ho hc
    | some c0 =>
      rcases t.old c _ ho with ⟨e, _⟩ | e | ⟨_, c', e, _, h3, _⟩
      · rw [hl] at e; injection e with e; subst e; exact ⟨xs, rfl, rfl⟩
      · rw [hl] at e; cases e
      · rw [hl] at e; injection e with e; subst e
        obtain ⟨xs', e', hlen⟩ := h3 ty xs rfl
        exact ⟨xs', by rw [e'], hlen⟩
  · cases ho : lk c m with
    | none => exact absurd ho hc
    | some c0 =>
      rcases t.old c _ ho with ⟨e, hk⟩ | e | ⟨_, c', e, _, _, h4, _⟩
      · rw [hl] at e; injection e with e; subst e
        exact ⟨arr, hb.keep (t.keep.block b hb.lt (hk (by simp) b hg)), rfl⟩
      · rw [hl] at e; cases e
      · exact h4 b arr hg hb

theorem ChR.stays {m m' : Mem} {S S' : Nat → Prop} (h : Stays g g' m m' S S' w w') {gk : Option Nat} {ch : Chunk} (hb : ∀ b, gk = some b → w'.heap[b]? = w.heap[b]?) (hr : ChR g m S w gk ch) : ChR g' m' S' w' gk ch := by
  cases ch with
  | gone => trivial
  | box cs =>
    obtain ⟨b, arr, e, hbl, hc⟩ := hr
    exact ⟨b, arr, e, hbl.keep (hb b e), hc.mono fun _ _ => CR.stays h⟩
  | seq t xs =>
    cases gk with
    | none => exact hr
    | some b =>
      obtain ⟨arr, hbl, he⟩ := hr
      exact ⟨arr, hbl.keep (hb b rfl), he.keep h.safe⟩

theorem Sim.turn {G : List Nat} {m' : Mem} {nx' : Nat} (h : Sim cx g st a w) (t : Turn cx g g' st.mem m' w w' G) :
    Sim cx g' (st.setMem m' nx') a w' := by
  have hlt : ∀ k ch b, lk k st.mem = some ch → ch ≠ .gone → g k = some b → b < w.heap.size := fun k ch b h1 h2 h3 => h.live_lt h1 h2 h3
  have hs := t.stays hlt
  refine ⟨h.defers, h.size, fun t' v hl => VR.stays hs (h.fr t' v hl), fun k ch hk => ?_, ?_, fun k ch b hk hn hg => ?_, ?_, fun p hp => ⟨(t.addr p.1 (h.own p hp).2).trans (h.own p hp).1, (hs.pres p.1 (h.own p hp).2).1⟩⟩
  · change lk k m' = some ch at hk
    cases ho : lk k st.mem with
    | none => exact (t.new k ch ho hk).1
    | some c0 =>
      have hgk := t.addr k (by rw [ho]; simp)
      rcases t.old k _ ho with ⟨e, hb⟩ | e | ⟨_, c', e, _, _, _, h5⟩
      · rw [hk] at e; injection e with e; subst e
        by_cases hn : ch = .gone
        · subst hn; trivial
        · rw [hgk]
          refine ChR.stays hs (fun b hg => ?_) (h.mem k ch ho)
          exact t.keep.block b (hlt k ch b ho hn hg) (hb hn b hg)
      · rw [hk] at e; injection e with e; subst e; trivial
      · rw [hk] at e; injection e with e; subst e; exact h5
  · intro k k' ch ch' b hk hn hk' hn' hg hg'
    change lk k m' = some ch at hk
    change lk k' m' = some ch' at hk'
    cases ho : lk k st.mem with
    | none => exact (((t.new k ch ho hk).2 hn b hg).2 k' ch' hk' hn' hg').symm
    | some c0 =>
      cases ho' : lk k' st.mem with
      | none => exact ((t.new k' ch' ho' hk').2 hn' b hg').2 k ch hk hn hg
      | some c0' =>
        refine h.inj k k' c0 c0' b ho (t.notgone ho hk hn) ho' (t.notgone ho' hk' hn') ?_ ?_
        · rw [← t.addr k (by rw [ho]; simp)]; exact hg
        · rw [← t.addr k' (by rw [ho']; simp)]; exact hg'
  · change lk k m' = some ch at hk
    cases ho : lk k st.mem with
    | none =>
      rcases ((t.new k ch ho hk).2 hn b hg).1 with hx | hx
      · exact .inl (Nat.le_trans h.keep.size hx)
      · obtain ⟨k2, c2, h2, hn2, hg2⟩ := t.live b hx
        exact h.base k2 c2 b h2 hn2 hg2
    | some c0 =>
      exact h.base k c0 b ho (t.notgone ho hk hn) (by rw [← t.addr k (by rw [ho]; simp)]; exact hg)
  · refine ⟨t.keep.os.trans h.keep.os, t.keep.tape.trans h.keep.tape, t.keep.output.trans h.keep.output, Nat.le_trans h.keep.size t.keep.size, fun b hb hf => ?_,
      fun b arr hb => let ⟨arr1, h1, e1⟩ := h.keep.sz b arr hb; let ⟨arr2, h2, e2⟩ := t.keep.sz b arr1 h1; ⟨arr2, h2, e2.trans e1⟩⟩
    rw [t.keep.block b (Nat.lt_of_lt_of_le hb h.keep.size) ?_]
    · exact h.keep.block b hb hf
    · intro hG
      obtain ⟨k2, c2, h2, hn2, hg2⟩ := t.live b hG
      rcases h.base k2 c2 b h2 hn2 hg2 with hx | hx
      · omega
      · exact hf hx

theorem KeepF.alloc (G : List Nat) (w : World) (o : Obj) : KeepF G w (w.alloc o) :=
  ⟨rfl, rfl, rfl, by simp, fun b hb _ => RowKit.Below.heap_alloc w o b hb, fun b arr hb => ⟨arr, hb.keep (RowKit.Below.heap_alloc w o b hb.lt), rfl⟩⟩
theorem KeepF.drew (G : List Nat) (w : World) : KeepF G w w.drew := ⟨rfl, rfl, rfl, Nat.le_refl _, fun _ _ _ => rfl, fun _ arr hb => ⟨arr, hb, rfl⟩⟩

/-- Keys that are not there yet. -/
def Fresh (m l : Mem) : Prop := ∀ p ∈ l, lk p.1 m = none

/-- A new chunk in a new block. -/
theorem Sim.new {ch : Chunk} {arr : Array Value} (h : Sim cx g st a w) (hfr : lk st.nx st.mem = none) (hk : KeepF [] w w') (hb : blk w' w.heap.size arr)
    (hc : ∀ g' : GM, (∀ k, lk k st.mem ≠ none → g' k = g k) → g' st.nx = some w.heap.size → ∀ S', (∀ b, cx.safe g st.mem w b → S' b) → ChR g' ((st.nx, ch) :: st.mem) S' w' (some w.heap.size) ch) :
    ∃ g', (g' st.nx = some w.heap.size) ∧ Sim cx g' (st.setMem ((st.nx, ch) :: st.mem) (st.nx + 1)) a w' ∧ Stays g g' st.mem ((st.nx, ch) :: st.mem) (cx.safe g st.mem w) (cx.safe g' ((st.nx, ch) :: st.mem) w') w w' := by
  have hlt : ∀ k ch b, lk k st.mem = some ch → ch ≠ .gone → g k = some b → b < w.heap.size := fun k ch b h1 h2 h3 => h.live_lt h1 h2 h3
  let g' : GM := fun k => if k = st.nx then some w.heap.size else g k
  have hg' : ∀ k, lk k st.mem ≠ none → g' k = g k := by
    intro k hne
    show (if k = st.nx then _ else _) = _
    rw [if_neg (fun e => hne (by rw [e]; exact hfr))]
  have hgn : g' st.nx = some w.heap.size := if_pos rfl
  have hsafe : ∀ b, cx.safe g st.mem w b → cx.safe g' ((st.nx, ch) :: st.mem) w' b := by
    intro b ⟨h1, h2, h3⟩
    refine ⟨Nat.lt_of_lt_of_le h1 hk.size, h2, ?_⟩
    rintro ⟨k, c, hkk, hn, hg⟩
    rw [lk_cons] at hkk
    by_cases e : k = st.nx
    · subst e; rw [hgn] at hg; injection hg; omega
    · rw [if_neg e] at hkk
      exact h3 ⟨k, c, hkk, hn, by rw [← hg' k (by rw [hkk]; simp)]; exact hg⟩
  have t : Turn cx g g' st.mem ((st.nx, ch) :: st.mem) w w' [] := by
    refine ⟨hk, (fun b hb => by simp at hb), hg', fun k c0 ho => ?_, fun k c0 ho hk2 => ?_⟩
    · left
      rw [lk_cons, if_neg (fun e => by rw [e, hfr] at ho; cases ho)]
      exact ⟨ho, fun _ _ _ => by simp⟩
    · rw [lk_cons] at hk2
      by_cases e : k = st.nx
      · subst e
        rw [if_pos rfl] at hk2
        injection hk2 with hk2
        subst hk2
        refine ⟨by rw [hgn]; exact hc g' hg' hgn _ hsafe, fun hn b hg => ?_⟩
        rw [hgn] at hg
        injection hg with hg
        subst hg
        refine ⟨.inl (Nat.le_refl _), fun k' ch' hk' hn' hg'' => ?_⟩
        rw [lk_cons] at hk'
        by_cases e : k' = st.nx
        · exact e
        · rw [if_neg e] at hk'
          have := hlt k' ch' _ hk' hn' (by rw [← hg' k' (by rw [hk']; simp)]; exact hg'')
          omega
      · rw [if_neg e] at hk2
        rw [hk2] at ho
        cases ho
  exact ⟨g', hgn, h.turn t, t.stays hlt⟩

end
end Go.Ide
