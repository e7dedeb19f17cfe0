import Derived.Test.YtjekgiabgglokaaLibC
set_option linter.unusedVariables false
set_option linter.unusedSimpArgs false
set_option linter.unusedSectionVars false

/-
  Two rows of a slice of slices change places.
-/
namespace Go.Ide

def swapL {α : Type} (xs : List α) (i j : Nat) (d : α) : List α := (xs.set i (xs.getD j d)).set j (xs.getD i d)

theorem swapL_len {α : Type} (xs : List α) (i j : Nat) (d : α) : (swapL xs i j d).length = xs.length := by simp [swapL]

section
variable {cx : Cx} {g : GM} {st : St} {a : Act} {w : World}

def swapF (γ : List Nat → Option Nat) (i j : Nat) : List Nat → Option Nat
  | [] => γ []
  | q :: r => γ ((if q = i then j else if q = j then i else q) :: r)

theorem swapF_inv {γ : List Nat → Option Nat} {i j : Nat} {p : List Nat} {b : Nat} (h : swapF γ i j p = some b) : ∃ p', γ p' = some b ∧ (∀ q r, p = q :: r → p' = (if q = i then j else if q = j then i else q) :: r) ∧ (p = [] → p' = []) := by
  cases p with
  | nil => exact ⟨[], h, fun _ _ e => (by cases e), fun _ => rfl⟩
  | cons q r => exact ⟨_, h, fun _ _ e => (by injection e with e1 e2; subst e1 e2; rfl), fun e => (by cases e)⟩

theorem swap_ix_inj {i j q q' : Nat} (h : (if q = i then j else if q = j then i else q) = (if q' = i then j else if q' = j then i else q')) : q = q' := by
  split at h <;> split at h <;> (try split at h) <;> (try split at h) <;> omega

theorem Sim.swapped {c i j : Nat} {e : Ty} {xs : List (List e.D)} {own : List Nat} {w' : World} {arr' : Array Value} {b : Nat} (h : Sim cx g st a w) (ho : cx.own.map Prod.fst = own)
    (hl : lk c st.mem = some (.seq (.own e) xs)) (hb : ((!(memN c own) && freeK c st.mem) && st.mem.all (fun p => p.2.noRow)) = true) (hi : i < xs.length) (hj : j < xs.length) (hbg : g.f c [] = some b)
    {vi vj : Value} (hvi : AllR (g.f c [i, 0]) w e.size (xs.getD i []).length vi) (hvj : AllR (g.f c [j, 0]) w e.size (xs.getD j []).length vj)
    (hk : KeepF [b] w w') (hblk : blk w' b arr') (hsz : ∀ arr, blk w b arr → arr'.size = arr.size) (hai : arr'[i]? = some (if i = j then vi else vj)) (haj : arr'[j]? = some vi)
    (har : ∀ arr, blk w b arr → ∀ q, q ≠ i → q ≠ j → arr'[q]? = arr[q]?) :
    ∃ g', Sim cx g' ⟨cleanF st.fr, (c, .seq (.own e) (swapL xs i j [])) :: st.mem, st.nx⟩ a w' := by
  simp only [Bool.and_eq_true, Bool.not_eq_true'] at hb
  obtain ⟨⟨hown, hfree⟩, hnrm⟩ := hb
  have h := h.clean
  obtain ⟨g', hg'⟩ : ∃ g' : GM, g' = ⟨fun k => if k = c then swapF (g.f c) i j else g.f k⟩ := ⟨_, rfl⟩
  have hgc : g'.f c = swapF (g.f c) i j := by rw [hg']; exact if_pos rfl
  have hgne : ∀ k, k ≠ c → g'.f k = g.f k := fun k hk => by rw [hg']; exact if_neg hk
  have hmc : lk c ((c, Chunk.seq (.own e) (swapL xs i j [])) :: st.mem) = some (.seq (.own e) (swapL xs i j [])) := by rw [lk_cons, if_pos rfl]
  have hmo : ∀ k, k ≠ c → lk k ((c, Chunk.seq (.own e) (swapL xs i j [])) :: st.mem) = lk k st.mem := fun k hk => by rw [lk_cons, if_neg hk]
  obtain ⟨m', hm'⟩ : ∃ m' : Mem, m' = (c, Chunk.seq (.own e) (swapL xs i j [])) :: st.mem := ⟨_, rfl⟩
  rw [← hm'] at hmc hmo ⊢
  -- what is owned is owned before
  have hmap : ∀ k p ch b0, lk k m' = some ch → ch.owns p → g'.f k p = some b0 → ∃ p0 ch0, lk k st.mem = some ch0 ∧ ch0.owns p0 ∧ g.f k p0 = some b0 ∧
      (k ≠ c → p0 = p) ∧ (k = c → (p = [] → p0 = []) ∧ ∀ q r, p = q :: r → p0 = (if q = i then j else if q = j then i else q) :: r) := by
    intro k p ch b0 hk hn hg0
    by_cases e0 : k = c
    · subst e0
      rw [hgc] at hg0
      obtain ⟨p0, h1, h2, h3⟩ := swapF_inv hg0
      exact ⟨p0, _, hl, trivial, h1, fun e => absurd rfl e, fun _ => ⟨h3, h2⟩⟩
    · rw [hmo k e0] at hk
      rw [hgne k e0] at hg0
      exact ⟨p, ch, hk, hn, hg0, fun _ => rfl, fun e => absurd e e0⟩
  have hlive : ∀ b0, Live g' m' b0 → Live g st.mem b0 := fun b0 ⟨k, p, ch, h1, h2, h3⟩ => by
    obtain ⟨p0, ch0, q1, q2, q3, _⟩ := hmap k p ch b0 h1 h2 h3
    exact ⟨k, p0, ch0, q1, q2, q3⟩
  have hLb : Live g st.mem b := ⟨c, [], _, hl, trivial, hbg⟩
  have hsafe : ∀ b0, cx.safe g st.mem w b0 → cx.safe g' m' w' b0 ∧ w'.heap[b0]? = w.heap[b0]? := fun b0 ⟨h1, h2, h3⟩ =>
    ⟨⟨Nat.lt_of_lt_of_le h1 hk.size, h2, fun hl => h3 (hlive b0 hl)⟩, hk.block b0 h1 (fun hm => h3 (by simp at hm; rw [hm]; exact hLb))⟩
  have hkb : ∀ k p ch b0, lk k st.mem = some ch → ch.owns p → g.f k p = some b0 → (k ≠ c ∨ p ≠ []) → w'.heap[b0]? = w.heap[b0]? := fun k p ch b0 h1 h2 h3 h4 => by
    refine hk.block b0 (h.lt k p ch b0 h1 h2 h3) fun hm => ?_
    simp at hm
    subst hm
    obtain ⟨e1, e2⟩ := h.injp k c p [] ch _ b0 h1 h2 hl trivial h3 hbg
    rcases h4 with h4 | h4
    · exact h4 e1
    · exact h4 e2
  have hst : Stays0 g g' st.mem m' (cx.safe g st.mem w) (cx.safe g' m' w') w w' := by
    refine ⟨hsafe, fun k hk0 => ⟨?_, ?_⟩, fun k t0 xs0 hk0 hs => ?_, fun k t0 xs0 b0 arr hk0 _ _ hb0 => hk.sz b0 arr hb0⟩
    · by_cases e0 : k = c
      · rw [e0, hmc]; simp
      · rw [hmo k e0]; exact hk0
    · by_cases e0 : k = c
      · subst e0; show g'.f k [] = g.f k []; rw [hgc]; rfl
      · show g'.f k [] = g.f k []; rw [hgne k e0]
    · by_cases e0 : k = c
      · subst e0
        have hs := SeqAt.toSeq hmc hs
        rw [hmc] at hs
        injection hs with hs
        injection hs with e1 e2
        subst e1
        have e2 := eq_of_heq e2
        subst e2
        exact ⟨xs, .inl hl, (swapL_len xs i j []).symm⟩
      · refine ⟨xs0, ?_, rfl⟩
        unfold SeqAt at hs ⊢
        rw [hmo k e0] at hs
        exact hs
  have hch := h.mem c _ hl
  unfold ChR at hch
  rw [hbg] at hch
  obtain ⟨arr, hblk0, hels⟩ := hch
  -- a row in its new place
  have row : ∀ (q q' : Nat) (v : Value), q' < xs.length → (∀ p, g'.f c (q :: p) = g.f c (q' :: p)) → AllR (g.f c [q', 0]) w e.size (xs.getD q' []).length v → ElR (cx.safe g' m' w') w' (.own e) (fun p => g'.f c (q :: p)) 0 [v] (xs.getD q' []) := by
    intro q q' v hq' hγ hv
    have hx : xs.getD q' [] = xs[q'] := by simp [List.getD_eq_getElem?_getD, hq']
    obtain ⟨es, h1, v0, h2, h3, h4⟩ := hels q' hq'
    refine ⟨v, rfl, ?_, ?_⟩
    · show AllR (g'.f c [q, 0]) w' e.size (xs.getD q' []).length v
      rw [hγ]
      exact hv.stays fun b0 ar _ hb0 => hk.sz b0 ar hb0
    · show (match g'.f c [q, 0] with | none => _ | some b0 => _)
      rw [hγ, hx]
      cases hz : g.f c [q', 0] with
      | none =>
        have h4 : (match g.f c [q', 0] with | none => List.length xs[q'] = 0 | some b => _) := h4
        rw [hz] at h4
        exact h4
      | some b0 =>
        have h4 : (match g.f c [q', 0] with | none => _ | some b => ∃ arr, blk w b arr ∧ ∀ i (h : i < List.length xs[q']), ∃ es : List Value, (∀ j v, es[j]? = some v → arr[i * e.size + j]? = some v) ∧ ElR (cx.safe g st.mem w) w e (fun p => g.f c (q' :: 0 :: i :: p)) 0 es xs[q'][i]) := h4
        rw [hz] at h4
        obtain ⟨ar, k1, k2⟩ := h4
        refine ⟨ar, k1.keep (hkb c [q', 0] _ b0 hl trivial hz (.inr (by simp))), fun i0 hi0 => ?_⟩
        obtain ⟨es2, r1, r2⟩ := k2 i0 hi0
        refine ⟨es2, r1, ?_⟩
        have he : (fun p => g'.f c (q :: 0 :: i0 :: p)) = fun p => g.f c (q' :: 0 :: i0 :: p) := funext fun p => hγ _
        rw [he]
        exact ElR.keep hsafe e (fun p b1 hp => hkb c _ _ b1 hl trivial hp (.inr (by simp))) r2
  refine ⟨g', h.defers.keep hsafe, h.size, fun t v hlf => ?_, fun k ch hk0 => ?_, ?_, fun k p ch b0 hk0 hn hg0 => ?_, fun k p ch b0 hk0 hn hg0 => ?_, ?_, fun p hp => ?_, h.gl⟩
  · have hv := h.fr t v hlf
    refine VR.noRow hst ?_ hv
    have hlf : lk t (cleanF st.fr) = some v := hlf
    rw [lk_clean] at hlf
    cases hx : lk t st.fr with
    | none => rw [hx] at hlf; cases hlf
    | some u =>
      rw [hx] at hlf
      simp only [Option.map_some] at hlf
      injection hlf with hlf
      subst hlf
      cases hn : u.noRow with
      | true => exact hn
      | false => rfl
  · have hk0 : lk k m' = some ch := hk0
    by_cases e0 : k = c
    · subst e0
      rw [hmc] at hk0
      injection hk0 with hk0
      subst hk0
      show ChR g' m' (cx.safe g' m' w') w' (g'.f k) _
      unfold ChR
      rw [show g'.f k [] = some b from by rw [hgc]; exact hbg]
      refine ⟨arr', hblk, fun q hq => ?_⟩
      have hq' : q < xs.length := by rw [← swapL_len xs i j []]; exact hq
      have hsw : (swapL xs i j [])[q] = xs.getD (if q = i then j else if q = j then i else q) [] := by
        have : (swapL xs i j [])[q]? = some (xs.getD (if q = i then j else if q = j then i else q) []) := by
          unfold swapL
          rw [List.getElem?_set]
          by_cases e1 : j = q
          · subst e1
            rw [if_pos rfl, if_pos (by simpa using hq')]
            by_cases e2 : j = i
            · subst e2; simp
            · rw [if_neg e2, if_pos rfl]
          · rw [if_neg e1, List.getElem?_set]
            by_cases e2 : i = q
            · subst e2; rw [if_pos rfl, if_pos hq', if_pos rfl]
            · rw [if_neg e2, if_neg (fun e => e2 e.symm), if_neg (fun e => e1 e.symm), List.getElem?_eq_getElem hq']
              simp [List.getD_eq_getElem?_getD, hq']
        rw [List.getElem?_eq_getElem hq] at this
        injection this
      rw [hsw]
      have hγ : ∀ p, g'.f k (q :: p) = g.f k ((if q = i then j else if q = j then i else q) :: p) := fun p => by rw [hgc]; rfl
      by_cases e1 : q = j
      · refine ⟨[vi], fun jj v hv => ?_, row q _ vi (by rw [e1]; split <;> first | exact hj | (rw [if_pos rfl]; exact hi)) hγ ?_⟩
        · cases jj with
          | zero => simp only [List.getElem?_cons_zero] at hv; injection hv with hv; rw [← hv, e1]; simpa [Ty.size] using haj
          | succ => simp at hv
        · rw [e1]
          split
          · rename_i e2; rw [e2]; exact hvi
          · rw [if_pos rfl]; exact hvi
      · by_cases e2 : q = i
        · have hij : i ≠ j := fun e => e1 (by rw [e2, e])
          refine ⟨[vj], fun jj v hv => ?_, row q _ vj (by rw [if_pos e2]; exact hj) hγ (by rw [if_pos e2]; exact hvj)⟩
          cases jj with
          | zero => simp only [List.getElem?_cons_zero] at hv; injection hv with hv; rw [← hv, e2]; rw [if_neg hij] at hai; simpa [Ty.size] using hai
          | succ => simp at hv
        · obtain ⟨es, h1, v0, h2, h3, h4⟩ := hels q hq'
          refine ⟨[v0], fun jj v hv => ?_, row q _ v0 (by rw [if_neg e2, if_neg e1]; exact hq') hγ ?_⟩
          · have := h1 jj v (by rw [h2]; exact hv)
            cases jj with
            | zero =>
              simp only [Ty.size, Nat.mul_one, Nat.add_zero] at this ⊢
              rw [har arr hblk0 q e2 e1]; exact this
            | succ => simp at hv
          · rw [if_neg e2, if_neg e1, show xs.getD q [] = xs[q] by simp [List.getD_eq_getElem?_getD, hq']]; exact h3
    · rw [hmo k e0] at hk0
      have hr := h.mem k ch hk0
      have hnr : ch.noRow = true := List.all_eq_true.1 hnrm _ (lk_mem hk0)
      have hfr := List.all_eq_true.1 hfree _ (lk_mem hk0)
      have hb0 : ∀ p b0, ch.owns p → g.f k p = some b0 → w'.heap[b0]? = w.heap[b0]? := fun p b0 h1 h2 => hkb k p ch b0 hk0 h1 h2 (.inl e0)
      show ChR g' m' (cx.safe g' m' w') w' (g'.f k) ch
      rw [hgne k e0]
      cases ch with
      | gone => trivial
      | box ics =>
        obtain ⟨b0, arr2, q1, q2, q3⟩ := hr
        exact ⟨b0, arr2, q1, q2.keep (hb0 [] b0 trivial q1), q3.imp_mem fun ic hic _ => CR.noRow hst (List.all_eq_true.1 hnr ic hic)⟩
      | seq t2 xs2 =>
        unfold ChR at hr ⊢
        cases hγ : g.f k [] with
        | none => rw [hγ] at hr; exact hr
        | some b0 =>
          rw [hγ] at hr
          obtain ⟨arr2, q1, q2⟩ := hr
          exact ⟨arr2, q1.keep (hb0 [] b0 trivial hγ), q2.keep hsafe fun p b1 hp => hb0 p b1 trivial hp⟩
      | opn t2 xs2 i2 ics2 ks2 =>
        obtain ⟨hks2, b0, arr2, q1, q2, q3, q4, es, q5, q6, q7⟩ := hr
        have hcf : c ∉ ks2 := fun hm => by
          have : Nat.beq k c = false := by rw [← Bool.not_eq_true]; intro e2; exact e0 (Nat.eq_of_beq_eq_true e2)
          simp only [this, Bool.false_or, Bool.not_eq_true'] at hfr
          rw [inL_iff.2 hm] at hfr
          cases hfr
        have hne' : ∀ k1, lk k1 st.mem ≠ none → lk k1 m' ≠ none := fun k1 h1 => (hst.pres k1 h1).1
        have hks2' : All2 (fun o k1 => lk k1 m' ≠ none ∧ g'.f k1 = fun p => g.f k (i2 :: o :: p)) (ownOffs t2 0) ks2 := by
          refine All2.of_get hks2.length fun j0 o k1 hj0 hk1 => ?_
          obtain ⟨k1', hk1', r1, r2⟩ := All2.get j0 hks2 o hj0
          rw [hk1] at hk1'
          injection hk1' with hk1'
          subst hk1'
          exact ⟨hne' k1 r1, by rw [hgne k1 (fun e2 => hcf (by rw [← e2]; exact List.mem_of_getElem? hk1))]; exact r2⟩
        refine ⟨hks2', b0, arr2, q1, q2.keep (hb0 [] b0 (by intro o r e; cases e) q1), q3, fun j0 hj0 hne => ?_, es, q5, q6, q7.imp_mem fun ic hic _ => CR.noRow hst (List.all_eq_true.1 hnr ic hic)⟩
        obtain ⟨es2, r1, r2⟩ := q4 j0 hj0 hne
        exact ⟨es2, r1, ElR.keep hsafe t2 (fun p b1 hp => hb0 (j0 :: p) b1 (by intro o r e; injection e with e; exact absurd e hne) hp) r2⟩
  · intro k k' p p' ch ch' b0 hk0 hn hk1 hn' hg0 hg1
    obtain ⟨p0, ch0, q1, q2, q3, q4, q5⟩ := hmap k p ch b0 hk0 hn hg0
    obtain ⟨p0', ch0', r1, r2, r3, r4, r5⟩ := hmap k' p' ch' b0 hk1 hn' hg1
    obtain ⟨e1, e2⟩ := h.injp k k' p0 p0' ch0 ch0' b0 q1 q2 r1 r2 q3 r3
    subst e1
    refine ⟨rfl, ?_⟩
    by_cases e0 : k = c
    · obtain ⟨a1, a2⟩ := q5 e0
      obtain ⟨b1, b2⟩ := r5 e0
      cases p with
      | nil =>
        cases p' with
        | nil => rfl
        | cons q' r' => rw [a1 rfl, b2 q' r' rfl] at e2; cases e2
      | cons q r =>
        cases p' with
        | nil => rw [b1 rfl, a2 q r rfl] at e2; cases e2
        | cons q' r' =>
          rw [a2 q r rfl, b2 q' r' rfl] at e2
          injection e2 with e2 e3
          rw [swap_ix_inj e2, e3]
    · rw [← q4 e0, ← r4 e0, e2]
  · obtain ⟨p0, ch0, q1, q2, q3, _⟩ := hmap k p ch b0 hk0 hn hg0
    exact h.basep k p0 ch0 b0 q1 q2 q3
  · obtain ⟨p0, ch0, q1, q2, q3, _⟩ := hmap k p ch b0 hk0 hn hg0
    exact Nat.lt_of_lt_of_le (h.lt k p0 ch0 b0 q1 q2 q3) hk.size
  · refine ⟨hk.os.trans h.keep.os, hk.tape.trans h.keep.tape, hk.output.trans h.keep.output, Nat.le_trans h.keep.size hk.size, fun b0 hb0 hf => ?_,
      fun b0 ar hb0 => let ⟨arr1, h1, e1⟩ := h.keep.sz b0 ar hb0; let ⟨arr2, h2, e2⟩ := hk.sz b0 arr1 h1; ⟨arr2, h2, e2.trans e1⟩⟩
    rw [hk.block b0 (Nat.lt_of_lt_of_le hb0 h.keep.size) ?_]
    · exact h.keep.block b0 hb0 hf
    · intro hm
      simp at hm
      subst hm
      rcases h.basep c [] _ b0 hl trivial hbg with hx | hx
      · omega
      · exact hf hx
  · obtain ⟨q1, q2⟩ := h.own p hp
    have hpc : p.1 ≠ c := fun e0 => by
      have : c ∈ own := by rw [← ho, ← e0]; exact List.mem_map.2 ⟨p, hp, rfl⟩
      rw [memN_iff.2 this] at hown
      cases hown
    refine ⟨(hgne p.1 hpc) ▸ q1, ?_⟩
    show lk p.1 m' ≠ none
    rw [hmo p.1 hpc]; exact q2

theorem run_store1 {P : Program} {T : TypeId} {b o : Nat} {arr : Array Value} {v : Value} (hs : sizeT P T = some 1) (hb : blk w b arr) (hle : o < arr.size) (h1 : v.oneCell' = true) :
    ∃ w' arr', (Instr.storeAt T (.pointer (some ⟨b, o, none⟩)) v).run P w = .ok () w' ∧ blk w' b arr' ∧ KeepF [b] w w' ∧ arr'.size = arr.size ∧ arr'[o]? = some v ∧ ∀ q, q ≠ o → arr'[q]? = arr[q]? := by
  have hc : v.cells.toList = [v] := by rw [cells_one h1]
  obtain ⟨w', arr', k0, k1, k2, k3, k4⟩ := run_storeVar (P := P) (o := o) hs hb (v := v) (by rw [hc]; rfl) (by omega) (by rw [hc]; intro x hx; simp at hx; rw [hx]; exact h1)
  rw [hc] at k2
  have hlen : (arr.toList.take o).length = o := by rw [List.length_take]; simp; omega
  refine ⟨w', arr', k0, k1, k3, k4, ?_, fun q hq => ?_⟩
  · rw [← Array.getElem?_toList, k2, List.append_assoc, List.getElem?_append_right (by omega), hlen]; simp
  · rw [← Array.getElem?_toList, k2, ← Array.getElem?_toList, List.append_assoc]
    rcases Nat.lt_or_ge q o with hlt | hge
    · rw [List.getElem?_append_left (by omega), List.getElem?_take, if_pos hlt]
    · rw [List.getElem?_append_right (by omega), hlen, List.getElem?_append_right (by simp; omega), List.getElem?_drop]
      congr 1
      simp
      omega

end

def Qn (st' : St) (e : Exit) (s : St) : Prop := e = .normal ∧ s = st'

def RD (cx : Cx) (ops : List Oper) (n : Nat) (listed : Array Bool) (st st' : St) : Prop :=
  ∀ g a w, Sim cx g st a w → wpAny cx.P .any ops.toArray (fun e a' w' => ∃ s g', Qn st' e s ∧ Sim cx g' s a' w') n listed a w

def tk1 (P : Program) (N : Nat) (ops : List Oper) (listed : Array Bool) (i : Nat) (st : St) : Option (St × List Prop) :=
  match ops[i]? with
  | some o => bif (Region.noSelect ops.toArray && (Region.free .any ops.toArray listed i && (Region.ready .any ops.toArray listed).contains i)) && (match o.guard with
      | none => true
      | some _ => false) then (match o.op, o.dst with
    | .move x, some d => (match ev st.fr x with
      | some v => bif Nat.blt d N then some (⟨(d, v) :: st.fr, st.mem, st.nx⟩, []) else none
      | none => none)
    | .indexAddr T x y, some d => (match ev st.fr x, ev st.fr y, P.underlying T with
      | some (.one (.all c)), some (.one (.dat (.int _) n)), some (.slice el) => (match lk c st.mem, sizeT P el with
        | some (.seq t xs), some kz => bif Nat.blt d N && Nat.beq kz t.size then some (⟨(d, .one (.elp c (Int.toNat n) t.size 0)) :: st.fr, st.mem, st.nx⟩, [(0 : Int) ≤ n ∧ @LT.lt Int _ n (lenI xs)]) else none
        | _, _ => none)
      | _, _, _ => none)
    | _, _ => none) else none
  | none => none

def tks (P : Program) (N : Nat) (ops : List Oper) : List Nat → Array Bool → St → Option (Array Bool × St × List Prop)
  | [], listed, st => some (listed, st, [])
  | i :: is, listed, st => (match tk1 P N ops listed i st with
    | some (st1, c1) => (match tks P N ops is (listed.setIfInBounds i true) st1 with
      | some (l2, st2, c2) => some (l2, st2, c1 ++ c2)
      | none => none)
    | none => none)

theorem run_indexAll {P : Program} {T el : TypeId} {k : IntKind} {n : Int} {ad : Addr} {len cap kz : Nat} (hu : P.underlying T = some (.slice el)) (hs : sizeT P el = some kz) (h0 : 0 ≤ n) (h1 : n < (len : Int)) (w : World) :
    (Instr.indexAt T (.slice (some ad) len cap) (.int k n)).run P w = .ok (.pointer (some (ad.add (n.toNat * kz)))) w := by
  simp [Instr.indexAt, asIntOf, run_underlying hu, run_sizeT hs, h0, h1]

section
variable {cx : Cx} {st st' st1 : St} {P : Program} {N : Nat} {own : List Nat} {ops : List Oper} {listed : Array Bool} {n : Nat}

theorem tk1_sound (hX : CxIs cx P N own) {i : Nat} {cs : List Prop} (he : tk1 P N ops listed i st = some (st1, cs)) (hc : AllP cs) (h : RD cx ops n (listed.setIfInBounds i true) st1 st') : RD cx ops (n + 1) listed st st' := by
  obtain ⟨hP, hN, _⟩ := hX
  subst hP hN
  unfold tk1 at he
  split at he
  · rename_i o ho
    cases hb : ((Region.noSelect ops.toArray && (Region.free .any ops.toArray listed i && (Region.ready .any ops.toArray listed).contains i)) && (match o.guard with | none => true | some _ => false)) with
    | false => rw [hb] at he; cases he
    | true =>
      rw [hb] at he
      simp only [cond_true] at he
      simp only [Bool.and_eq_true] at hb
      obtain ⟨⟨hsel, hfree, hready⟩, hg⟩ := hb
      have hg : o.guard = none := by
        cases hgo : o.guard with
        | none => rfl
        | some _ => rw [hgo] at hg; cases hg
      have hi : ops.toArray[i]? = some o := by simpa using ho
      have hw : ∀ a : Act, Region.wanted o (yielded ops.toArray a.tmps) = true := fun a => by simp [Region.wanted, hg]
      split at he
      · rename_i x d hop hd
        split at he
        · rename_i v hv
          cases hdN : Nat.blt d cx.N with
          | false => rw [hdN] at he; cases he
          | true =>
            rw [hdN] at he
            simp only [cond_true] at he
            injection he with he
            injection he with e1 e2
            subst e1
            intro g a w hs
            refine wpAny_take (v := a.eval x) hi hsel hfree hready (fun c a w hq => by obtain ⟨s, g', ⟨q, _⟩, _⟩ := hq; cases q) (.inl ⟨hw a, fun w => by simp [execOp, hop]⟩) ?_
            rw [hd]
            exact h g _ w (hs.put (ev_VR hs hv) (some d) (fun t e => by cases e; exact Nat.le_of_ble_eq_true hdN))
        · cases he
      · rename_i T x y d hop hd
        split at he
        · rename_i c k m el hx hy hu
          split at he
          · rename_i t xs kz hl hkz
            cases hdN : (Nat.blt d cx.N && Nat.beq kz t.size) with
            | false => rw [hdN] at he; cases he
            | true =>
              rw [hdN] at he
              simp only [cond_true] at he
              simp only [Bool.and_eq_true] at hdN
              injection he with he
              injection he with e1 e2
              subst e1
              subst e2
              obtain ⟨⟨h0, h1⟩, _⟩ := hc
              have hz := beq_of hdN.2
              intro g a w hs
              have hvx := ev_VR hs hx
              have hvy : a.eval y = .int k m := by have : [a.eval y] = [Value.int k m] := ev_VR hs hy; simpa using this
              have hch := hs.mem c _ hl
              have hall := hvx.2.2 t xs (.inl hl)
              unfold AllR at hall
              unfold ChR at hch
              cases hgc : g.f c [] with
              | none =>
                rw [hgc] at hch
                have : xs = [] := hch
                subst this
                exact (no_lt h0 h1).elim
              | some b =>
                have hall : match g.f c [] with | none => _ | some b => _ := hall
                rw [hgc] at hall
                obtain ⟨cap, arr, e1, _, hbl, _⟩ := hall
                refine wpAny_take (v := .pointer (some ⟨b, m.toNat * kz, none⟩)) hi hsel hfree hready (fun c a w hq => by obtain ⟨s, g', ⟨q, _⟩, _⟩ := hq; cases q) (.inl ⟨hw a, fun w => ?_⟩) ?_
                · simp only [execOp, hop, Sem.run_bind]
                  rw [e1, hvy, run_indexAll hu hkz h0 h1]
                  simp [add_none]
                · rw [hd]
                  refine h g _ w (hs.put (v := .one (.elp c m.toNat t.size 0)) ?_ (some d) (fun t e => by cases e; exact Nat.le_of_ble_eq_true hdN.1))
                  exact ⟨hvx.1, b, hgc, by rw [hz]; simp⟩
          · cases he
        · cases he
      · cases he
  · cases he

theorem RD.take (hX : CxIs cx P N own) : ∀ (is : List Nat) {listed listed' : Array Bool} {st st1 : St} {cs : List Prop}, tks P N ops is listed st = some (listed', st1, cs) → AllP cs → RD cx ops n listed' st1 st' → RD cx ops (n + is.length) listed st st'
  | [], listed, listed', st, st1, cs, he, hc, h => by
    injection he with he
    injection he with e1 e2
    injection e2 with e2 e3
    subst e1 e2
    exact h
  | i :: is, listed, listed', st, st1, cs, he, hc, h => by
    simp only [tks] at he
    split at he
    · rename_i st2 c1 h1
      split at he
      · rename_i l2 st3 c2 h2
        injection he with he
        injection he with e1 e2
        injection e2 with e2 e3
        subst e1 e2 e3
        obtain ⟨hc1, hc2⟩ := hc.append
        exact tk1_sound hX h1 hc1 (RD.take hX is h2 hc2 h)
      · cases he
    · cases he

theorem RD.step (hX : CxIs cx P N own) {i : Nat} {o : Oper} {r : OH} {cs : List Prop} (ho : ops[i]? = some o) (he : istep P N ops o r st = some (st1, cs)) (hc : AllP cs) (h : RD cx ops n (listed.setIfInBounds i true) st1 st') :
    ∀ g a w, Sim cx g st a w → wpOp cx.P ops.toArray (fun e a' w' => ∃ s g', Qn st' e s ∧ Sim cx g' s a' w') i (wpAny cx.P .any ops.toArray (fun e a' w' => ∃ s g', Qn st' e s ∧ Sim cx g' s a' w') n (listed.setIfInBounds i true)) a w := by
  obtain ⟨hP, hN, _⟩ := hX
  subst hP hN
  exact fun g a w hs => wp_op (by simpa using ho) (istep_sound hs he hc fun g' a' w' hs' => h g' a' w' hs')

theorem RD.one (hX : CxIs cx P N own) (i : Nat) {o : Oper} {r : OH} (st1 : St) {cs : List Prop} (hr : Region.ready .any ops.toArray listed = [i]) (ho : ops[i]? = some o) (he : istep P N ops o r st = some (st1, cs)) (hc : AllP cs)
    (h : RD cx ops n (listed.setIfInBounds i true) st1 st') : RD cx ops (n + 1) listed st st' :=
  fun g a w hs => wpAny_all hr (by simp) fun j hj => by
    have : j = i := by simpa using hj
    subst this
    exact RD.step hX ho he hc h g a w hs

theorem RD.two (hX : CxIs cx P N own) (i j : Nat) {oi oj : Oper} {ri rj : OH} (sti stj : St) {ci cj : List Prop} (hr : Region.ready .any ops.toArray listed = [i, j]) (hoi : ops[i]? = some oi) (hoj : ops[j]? = some oj)
    (hei : istep P N ops oi ri st = some (sti, ci)) (hci : AllP ci) (hej : istep P N ops oj rj st = some (stj, cj)) (hcj : AllP cj)
    (h1 : RD cx ops n (listed.setIfInBounds i true) sti st') (h2 : RD cx ops n (listed.setIfInBounds j true) stj st') : RD cx ops (n + 1) listed st st' :=
  fun g a w hs => wpAny_all hr (by simp) fun k hk => by
    simp only [List.mem_cons, List.not_mem_nil, or_false] at hk
    rcases hk with rfl | rfl
    · exact RD.step hX hoi hei hci h1 g a w hs
    · exact RD.step hX hoj hej hcj h2 g a w hs

def okT (all : List Oper) (Ds : List (List Nat)) (h : Nat) : Nat → List Oper → Bool
  | _, [] => true
  | i, o :: os =>
    ((directs o).all fun d => Nat.blt d i) &&
    (((Ds.getD i []).all fun j => memN j (directs o) || (directs o).any fun d => memN j (Ds.getD d []))) &&
    ((List.range i).all fun j => Nat.blt j h || memN j (Ds.getD i [])) &&
    okT all Ds h (i + 1) os

theorem okT_spec {all : List Oper} {Ds : List (List Nat)} {h : Nat} : ∀ {os : List Oper} {n : Nat}, okT all Ds h n os = true → ∀ (i : Nat) (o : Oper), os[i]? = some o →
    (∀ d ∈ directs o, d < n + i) ∧ (∀ j ∈ Ds.getD (n + i) [], j ∈ directs o ∨ ∃ d ∈ directs o, j ∈ Ds.getD d []) ∧ (∀ j, h ≤ j → j < n + i → j ∈ Ds.getD (n + i) [])
  | [], _, _, i, o, ho => by simp at ho
  | o0 :: os, n, hk, i, o, ho => by
    simp only [okT, Bool.and_eq_true] at hk
    obtain ⟨⟨⟨h1, h2⟩, h3⟩, h4⟩ := hk
    cases i with
    | succ i =>
      have := okT_spec h4 i o (by simpa using ho)
      rwa [show n + 1 + i = n + (i + 1) from by omega] at this
    | zero =>
      simp at ho
      subst ho
      refine ⟨fun d hd => ?_, fun j hj => ?_, fun j hjh hj => ?_⟩
      · have := List.all_eq_true.1 h1 d hd
        exact Nat.lt_of_succ_le (by simpa [Nat.blt] using this)
      · have := List.all_eq_true.1 h2 j hj
        simp only [Bool.or_eq_true] at this
        rcases this with h | h
        · exact .inl (memN_iff.1 h)
        · obtain ⟨d, hd, hm⟩ := List.any_eq_true.1 h
          exact .inr ⟨d, hd, memN_iff.1 hm⟩
      · have := List.all_eq_true.1 h3 j (by simpa using hj)
        simp only [Bool.or_eq_true] at this
        rcases this with hq | hq
        · have : j < h := Nat.lt_of_succ_le (by simpa [Nat.blt] using hq)
          omega
        · exact memN_iff.1 hq

theorem RD.tail (h : Nat) (Ds : List (List Nat)) (hok : okT ops Ds h 0 ops = true) (hl : ((Nat.beq listed.size ops.length && Nat.ble h ops.length) && ((List.range ops.length).all fun j => lsel listed j == Nat.blt j h)) = true) (hn : Nat.ble (todo listed ops.length) n = true)
    (hr : RG cx ops (ops.drop h) st (Qn st')) : RD cx ops n listed st st' := by
  intro g a w hs
  simp only [Bool.and_eq_true] at hl
  obtain ⟨⟨hsz, hle⟩, hl⟩ := hl
  refine tails_list (h := h) (Ds := Ds) (fun i o ho => ?_) n (i := h) (beq_of hsz) (Nat.le_refl h) (fun j hj => ?_) (Nat.le_of_ble_eq_true hle) (Nat.le_of_ble_eq_true hn) (hr g a w hs)
  · have := okT_spec hok i o ho
    simpa using this
  · have := List.all_eq_true.1 hl j (List.mem_range.2 hj)
    rw [beq_iff_eq] at this
    rw [this]
    simp [Nat.blt]
    omega

theorem RD.le (hl : Le cx st st1) (h : RD cx ops n listed st1 st') : RD cx ops n listed st st' := fun g a w hs => let ⟨g', hs'⟩ := hl g a w hs; h g' a w hs'

theorem HT.rd {id : Nat} {Q : Exit → St → Prop} (hX : CxIs cx P N own) (hm : P.follows .mixedOrders = true) {listed : Array Bool} (hl : listed = Array.replicate ops.length false) (hn : n = ops.length) (h : RD cx ops n listed st st') (hq : Q .normal st') : HT cx st (.region id ops.toArray true) Q := by
  obtain ⟨hP, hN, _⟩ := hX
  subst hP hN
  intro g a w hs
  refine wp_mono (wp_region_any hm (?_ : wpAny cx.P .any ops.toArray (fun e a' w' => ∃ s g', Qn st' e s ∧ Sim cx g' s a' w') _ _ a w.drew)) fun e a' w' ⟨s, g', ⟨e1, e2⟩, hs'⟩ => by subst e1 e2; exact ⟨s, g', hq, hs'⟩
  have := h g a w.drew hs.drew
  rw [hl, hn] at this
  simpa using this

theorem RG.swap3 {Q : Exit → St → Prop} {all : List Oper} {o1 o2 o3 : Oper} {T TS el : TypeId} {t1 t2 u1 u2 r y c i : Nat} {k : IntKind} {m : Int} {e : Ty} {xs : List (List e.D)} (hX : CxIs cx P N own)
    (h1 : o1.op = .store T (.tmp t1) (.tmp u1)) (g1 : o1.guard = none) (d1 : o1.dst = none) (h2 : o2.op = .indexAddr TS (.tmp r) (.tmp y)) (g2 : o2.guard = none) (d2 : o2.dst = some t2)
    (h3 : o3.op = .store T (.tmp t2) (.tmp u2)) (g3 : o3.guard = none) (d3 : o3.dst = none) (hT : sizeT P T = some 1) (hTS : P.underlying TS = some (.slice el)) (hel : sizeT P el = some 1) (hd : (Nat.blt t2 N && !(Nat.beq t2 u2)) = true)
    (a1 : lk t1 st.fr = some (.one (.elp c i 1 0))) (b1 : lk u1 st.fr = some (.one (.row c (Int.toNat m) 0))) (ar : lk r st.fr = some (.one (.all c))) (ay : lk y st.fr = some (.one (.dat (.int k) m))) (b2 : lk u2 st.fr = some (.one (.row c i 0)))
    (hl : lk c st.mem = some (.seq (.own e) xs)) (hb : ((!(memN c own) && freeK c st.mem) && st.mem.all (fun p => p.2.noRow)) = true) (hm : (0 : Int) ≤ m ∧ @LT.lt Int _ m (lenI xs))
    (hq : Q .normal ⟨cleanF ((t2, .one (.elp c (Int.toNat m) 1 0)) :: st.fr), (c, .seq (.own e) (swapL xs i (Int.toNat m) [])) :: st.mem, st.nx⟩) : RG cx all [o1, o2, o3] st Q := by
  obtain ⟨hP, hN, hO⟩ := hX
  subst hP hN
  intro g a w hs
  have va1 := hs.fr t1 _ a1
  have vb1 := hs.fr u1 _ b1
  have var := hs.fr r _ ar
  have vay := hs.fr y _ ay
  have vb2 := hs.fr u2 _ b2
  simp only [Bool.and_eq_true, Bool.not_eq_true'] at hd
  have hne : t2 ≠ u2 := fun e0 => by rw [e0, Nat.beq_refl] at hd; cases hd.2
  obtain ⟨_, b, hbg, e1⟩ := va1
  have hbg : g.f c [] = some b := hbg
  obtain ⟨_, o1c, r1⟩ := vb1
  obtain ⟨_, o2c, r2⟩ := vb2
  obtain ⟨hj, r1⟩ := r1 _ _ hl
  obtain ⟨hi, r2⟩ := r2 _ _ hl
  have r1 := r1 e (xs.getD m.toNat []) rfl
  have r2 := r2 e (xs.getD i []) rfl
  have hall := var.2.2 _ _ (.inl hl)
  unfold AllR at hall
  rw [show g.at c = some b from hbg] at hall
  obtain ⟨cap, arr0, er, _, _, _⟩ := hall
  have vay : a.tmps.getD y undef = .int k m := by have : [a.tmps.getD y undef] = [Value.int k m] := vay; simpa using this
  have hch := hs.mem c _ hl
  unfold ChR at hch
  rw [hbg] at hch
  obtain ⟨arr, hblk, hels⟩ := hch
  have hsz : ∀ q, q < xs.length → q < arr.size := fun q hq => by
    obtain ⟨es, k1, v0, k2, _⟩ := hels q hq
    have := k1 0 v0 (by rw [k2]; rfl)
    simp only [Ty.size, Nat.mul_one, Nat.add_zero] at this
    exact (Array.getElem?_eq_some_iff.1 this).1
  simp only [Nat.mul_one, Nat.add_zero] at e1
  obtain ⟨w1, arr1, s1, s2, s3, s4, s5, s6⟩ := run_store1 (P := cx.P) (T := T) (v := a.tmps.getD u1 undef) hT hblk (hsz i hi) o1c
  obtain ⟨w2, arr2, z1, z2, z3, z4, z5, z6⟩ := run_store1 (P := cx.P) (T := T) (v := a.tmps.getD u2 undef) hT s2 (by rw [s4]; exact hsz _ hj) o2c
  have hs14 := hs.put (v := .one (.elp c m.toNat 1 0)) (val := .pointer (some ⟨b, m.toNat, none⟩)) ⟨by rw [hl]; simp, b, hbg, by simp⟩ (some t2) (fun t e => by cases e; exact Nat.le_of_ble_eq_true hd.1)
  have hltN : t2 < a.tmps.size := by rw [hs.size]; exact Nat.le_of_ble_eq_true hd.1
  refine wpList_step fun K hK => ?_
  simp only [Region.wanted, g1, if_true]
  unfold Oper.wp
  rw [show execOp a.eval o1 = (do Instr.storeAt T (a.tmps.getD t1 undef) (a.tmps.getD u1 undef); pure .skip) from by simp only [execOp, h1]; rfl, e1]
  simp only [Sem.run_bind, s1, Result.andThen_ok, Sem.run_pure]
  refine hK _ _ ?_
  rw [d1]
  refine wpList_step fun K hK => ?_
  simp only [Region.wanted, g2, if_true]
  unfold Oper.wp
  rw [show (execOp (a.put none undef).eval o2).run cx.P w1 = .ok (.value (.pointer (some ⟨b, m.toNat, none⟩))) w1 from by
    have hrun := run_indexAll (P := cx.P) (T := TS) (k := k) (ad := ⟨b, 0, none⟩) (cap := cap) hTS hel hm.1 hm.2 w1
    simp only [execOp, h2, Sem.run_bind]
    rw [show (a.put none undef).eval (.tmp r) = .slice (some ⟨b, 0, none⟩) xs.length cap from er, show (a.put none undef).eval (.tmp y) = .int k m from vay, hrun]
    simp [add_none]]
  refine hK _ _ ?_
  rw [d2]
  refine wpList_step fun K hK => ?_
  simp only [Region.wanted, g3, if_true]
  unfold Oper.wp
  have et2 : ((a.put none undef).put (some t2) (.pointer (some ⟨b, m.toNat, none⟩))).eval (.tmp t2) = .pointer (some ⟨b, m.toNat, none⟩) := by
    show ((a.put none undef).put (some t2) (.pointer (some ⟨b, m.toNat, none⟩))).tmps.getD t2 undef = _
    simp [Act.put, Array.getD_eq_getD_getElem?, Array.getElem?_setIfInBounds, hltN]
  have eu2 : ((a.put none undef).put (some t2) (.pointer (some ⟨b, m.toNat, none⟩))).eval (.tmp u2) = a.tmps.getD u2 undef := by
    show ((a.put none undef).put (some t2) (.pointer (some ⟨b, m.toNat, none⟩))).tmps.getD u2 undef = _
    simp [Act.put, Array.getD_eq_getD_getElem?, Array.getElem?_setIfInBounds, hne]
  rw [show execOp ((a.put none undef).put (some t2) (.pointer (some ⟨b, m.toNat, none⟩))).eval o3 = (do Instr.storeAt T (.pointer (some ⟨b, m.toNat, none⟩)) (a.tmps.getD u2 undef); pure .skip) from by
    simp only [execOp, h3]; rw [et2, eu2]]
  simp only [Sem.run_bind, z1, Result.andThen_ok, Sem.run_pure]
  refine hK _ _ ?_
  rw [d3]
  obtain ⟨g', hs'⟩ := hs14.swapped (c := c) (i := i) (j := m.toNat) (vi := a.tmps.getD u2 undef) (vj := a.tmps.getD u1 undef) hO hl hb hi hj hbg r2 r1 (s3.trans z3) z2 (fun ar ha => by rw [hblk.eq ha] at s4; rw [z4, s4])
    (by
      by_cases e : i = m.toNat
      · rw [if_pos e]; rw [← e] at z5; exact z5
      · rw [if_neg e, z6 i e]; exact s5) z5
    (fun ar ha q hq1 hq2 => by rw [z6 q hq2, s6 q hq1, hblk.eq ha])
  exact ⟨_, g', hq, hs'⟩

end
end Go.Ide
