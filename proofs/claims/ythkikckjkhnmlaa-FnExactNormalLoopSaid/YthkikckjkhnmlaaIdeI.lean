/-
  Literals of structs, small operations; operations that make memory.
-/
import Derived.Test.YthkikckjkhnmlaaIdeH
namespace Go.Ide

section
variable {P : Program} {g : GM} {m : Mem} {S : Nat → Prop} {w : World}

theorem placesT_eq : ∀ {fs : List Field} {pl : List (Nat × Nat)}, placesT P fs = some pl → fs.mapM (fun f => (P.info? f.type).map fun i => (f.offset, i.size)) = some pl
  | [], pl, h => by simp only [placesT] at h; injection h with h; subst h; rfl
  | f :: fs, pl, h => by
    simp only [placesT, sizeT] at h
    cases hi : P.info? f.type with
    | none => simp [hi] at h
    | some i =>
      simp only [hi, Option.map_some] at h
      cases hr : placesT P fs with
      | none => simp [hr] at h
      | some l =>
        simp only [hr] at h
        injection h with h
        subst h
        simp [List.mapM_cons, hi, placesT_eq hr]

theorem cstV_cells (z : Value) (hz : (cstV z).ok = true) : All2 (CR g m S w) (cstV z).cells z.cells.toList := by
  obtain ⟨vs, e, h⟩ := cells_rel hz (cstV_VR (g := g) (m := m) (S := S) (w := w) z)
  rw [e]; exact h

theorem cstV_ones (z : Value) (hz : (cstV z).ok = true) : ∀ x ∈ z.cells.toList, x.oneCell' = true :=
  cells_ones (g := fun _ => none) (m := []) (S := fun _ => True) (w := default) hz (cstV_VR z)

theorem iBuild_sound {T : TypeId} {parts : List (Nat × IVal)} {vparts : Array (Nat × Value)} {e : Eff} (h : iBuild P T parts = some e)
    (hp : All2 (fun (p : Nat × IVal) (q : Nat × Value) => p.1 = q.1 ∧ VR g m S w p.2 q.2) parts vparts.toList) : Gives P g m S w (Instr.build T vparts) e := by
  unfold iBuild at h
  split at h
  · rename_i i fs hi hu
    split at h
    · rename_i z pl hz hpl
      cases hok : (cstV z).ok with
      | false => simp [hok] at h
      | true =>
        simp only [hok, cond_true] at h
        split at h
        · rename_i cs hf
          obtain ⟨arr', h1, h2⟩ := fill_rel (fun j => pl[j]?) hf (cstV_cells (g := g) (m := m) (S := S) (w := w) z hok) hp
          refine Gives.mk (pureE_eq h) (run_build w T vparts arr' ?_) ⟨arr'.toList, by simp, h2⟩
          unfold Program.built
          simp only [hi, hu, hz, placesT_eq hpl]
          simpa using h1
        · cases h
    · cases h
  · cases h

theorem iUn_sound {op : UnOp} {x : IVal} {e : Eff} {xa : Value} (h : iUn op x = some e) (hx : VR g m S w x xa) : Gives P g m S w (Op.unary op xa) e := by
  unfold iUn at h
  split at h
  · rename_i b
    have := dat_bool (g := g) (m := m) (S := S) (w := w) hx
    subst this
    exact Gives.mk (pureE_eq h) (r := .bool (!b)) (by simp [Op.unary]) rfl
  · rename_i k n
    have := dat_int (g := g) (m := m) (S := S) (w := w) hx
    subst this
    exact Gives.mk (pureE_eq h) (r := .int k (k.wrap (0 - n))) (by simp [Op.unary, Op.intArith]) rfl
  · cases h

theorem iConvert_sound {T U : TypeId} {x : IVal} {e : Eff} {xa : Value} (h : iConvert P T U x = some e) (hx : VR g m S w x xa) : Gives P g m S w (convert T U xa) e := by
  unfold iConvert at h
  split at h
  · rename_i k1 k k2 n h1 h2
    have := dat_int (g := g) (m := m) (S := S) (w := w) hx
    subst this
    exact Gives.mk (pureE_eq h) (r := .int k (k.wrap n)) (by simp [convert, run_underlying h1, run_underlying h2, Conv.intToInt]) rfl
  · rename_i s h1 h2
    have := dat_str (g := g) (m := m) (S := S) (w := w) hx
    subst this
    exact Gives.mk (pureE_eq h) (r := .string ⟨List.toArray s⟩) (by simp [convert, run_underlying h1, run_underlying h2]) rfl
  · cases h

theorem iExtract_sound {x : IVal} {i : Nat} {e : Eff} {xa : Value} (h : iExtract x i = some e) (hx : VR g m S w x xa) : Gives P g m S w (Instr.extract xa i) e := by
  unfold iExtract at h
  split at h
  · rename_i ts
    split at h
    · rename_i ag cs ht
      split at h
      · rename_i v hv
        obtain ⟨vs, e1, hall⟩ := hx
        subst e1
        obtain ⟨u, hu, hcv⟩ := hall.get i _ ht
        refine Gives.mk (pureE_eq h) (r := u) (by simp [Instr.extract, hu]) ?_
        unfold mkV at hv
        unfold CV at hcv
        split at hv
        · injection hv with hv; subst hv; exact hcv
        · injection hv with hv; subst hv; exact hcv
        · cases hv
      · cases h
    · cases h
  · cases h

theorem iMin_sound {x y : IVal} {e : Eff} {xa ya : Value} {Ts : Array TypeId} {T : TypeId} (h : iMin x y = some e) (hx : VR g m S w x xa) (hy : VR g m S w y ya) : Gives P g m S w (Builtin.min_ Ts T #[xa, ya]) e := by
  unfold iMin at h
  split at h
  · rename_i k a k' b
    split at h
    · rename_i hk
      subst hk
      have h1 := dat_int (g := g) (m := m) (S := S) (w := w) hx
      have h2 := dat_int (g := g) (m := m) (S := S) (w := w) hy
      subst h1
      subst h2
      exact Gives.mk (pureE_eq h) (r := .int k (if b < a then b else a)) (by simp [Builtin.min_, Builtin.min2]) rfl
    · cases h
  · cases h

theorem iMax_sound {x y : IVal} {e : Eff} {xa ya : Value} {Ts : Array TypeId} {T : TypeId} (h : iMax x y = some e) (hx : VR g m S w x xa) (hy : VR g m S w y ya) : Gives P g m S w (Builtin.max_ Ts T #[xa, ya]) e := by
  unfold iMax at h
  split at h
  · rename_i k a k' b
    split at h
    · rename_i hk
      subst hk
      have h1 := dat_int (g := g) (m := m) (S := S) (w := w) hx
      have h2 := dat_int (g := g) (m := m) (S := S) (w := w) hy
      subst h1
      subst h2
      exact Gives.mk (pureE_eq h) (r := .int k (if b > a then b else a)) (by simp [Builtin.max_, Builtin.max2]) rfl
    · cases h
  · cases h

end

section
variable {cx : Cx} {g : GM} {st : St} {a : Act} {w : World}

/-- What an operation's effect has come to. -/
def Did (cx : Cx) (st : St) (a : Act) (e : Eff) (val : Value) (w' : World) : Prop :=
  ∃ g', Sim cx g' (st.setMem (e.upd ++ e.new ++ st.mem) (st.nx + e.new.length)) a w' ∧ VR g' (e.upd ++ e.new ++ st.mem) (cx.safe g' (e.upd ++ e.new ++ st.mem) w') w' e.val val

/-- A value of an operation. -/
def Runs (cx : Cx) (st : St) (a : Act) (w : World) (s : Sem Value) (e : Eff) : Prop :=
  ∃ val w', s.run cx.P w = .ok val w' ∧ Did cx st a e val w'

theorem Gives.runs {s : Sem Value} {e : Eff} (h : Sim cx g st a w) (hg : Gives cx.P g st.mem (cx.safe g st.mem w) w s e) : Runs cx st a w s e := by
  obtain ⟨h1, h2, r, h3, h4⟩ := hg
  refine ⟨r, w, h3, g, ?_, ?_⟩
  · rw [h1, h2]; exact h
  · rw [h1, h2]; exact h4

/-- One new chunk in a new block. -/
theorem Did.new {e : Eff} {ch : Chunk} {arr : Array Value} {val : Value} {w' : World} (h : Sim cx g st a w) (hw : Fresh st.mem e.new) (he : e.new = [(st.nx, ch)] ∧ e.upd = []) (hk : KeepF [] w w') (hb : blk w' w.heap.size arr)
    (hc : ∀ g' : GM, (∀ k, lk k st.mem ≠ none → g' k = g k) → g' st.nx = some w.heap.size → ∀ S', (∀ b, cx.safe g st.mem w b → S' b) → ChR g' ((st.nx, ch) :: st.mem) S' w' (some w.heap.size) ch)
    (hv : ∀ g' : GM, g' st.nx = some w.heap.size → ∀ S', VR g' ((st.nx, ch) :: st.mem) S' w' e.val val) : Did cx st a e val w' := by
  obtain ⟨g', hgn, hs, _⟩ := h.new (hw (st.nx, ch) (by rw [he.1]; simp)) hk hb hc
  refine ⟨g', ?_, ?_⟩
  · rw [he.1, he.2]; exact hs
  · rw [he.1, he.2]; exact hv g' hgn _

theorem stays_new {ch : Chunk} {g' : GM} {S' : Nat → Prop} {w' : World} (hfr : lk st.nx st.mem = none) (hk : KeepF [] w w') (hg : ∀ k, lk k st.mem ≠ none → g' k = g k) (hS : ∀ b, cx.safe g st.mem w b → S' b) :
    Stays g g' st.mem ((st.nx, ch) :: st.mem) (cx.safe g st.mem w) S' w w' := by
  have hne : ∀ c, lk c st.mem ≠ none → lk c ((st.nx, ch) :: st.mem) = lk c st.mem := fun c hc => by
    rw [lk_cons, if_neg (fun e => hc (by rw [e]; exact hfr))]
  refine ⟨fun b hb => ⟨hS b hb, hk.block b hb.1 (by simp)⟩, fun c hc => ⟨by rw [hne c hc]; exact hc, hg c hc⟩, fun c t xs hc hl => ⟨xs, by rw [← hne c hc]; exact hl, rfl⟩, fun c t xs b arr hc hl hgc hb => ⟨arr, hb.keep (hk.block b hb.lt (by simp)), rfl⟩⟩

theorem iBox_sound {v : IVal} {e : Eff} {va : Value} {T : TypeId} (h : Sim cx g st a w) (hw : Fresh st.mem e.new) (he : iBox st.nx v = some e) (hv : VR g st.mem (cx.safe g st.mem w) w v va) : Runs cx st a w (Instr.box T va) e := by
  have key : ∀ cs : List ICell, v.ok = true → v.cells = cs → e = ⟨.one (.ptr st.nx 0), [(st.nx, .box cs)], [], []⟩ → Runs cx st a w (Instr.box T va) e := by
    intro cs hok hcs hee
    obtain ⟨vs, hvs, hall⟩ := cells_rel hok hv
    subst hee
    refine ⟨.pointer (some ⟨w.heap.size, 0, none⟩), w.alloc (.cells va.cells T), by simp [Instr.box, newVar, newRow], ?_⟩
    refine Did.new h hw ⟨rfl, rfl⟩ (KeepF.alloc _ _ _) (blk.new w _ T) (fun g' hg hgn S' hS => ?_) (fun g' hgn S' => ⟨by simp [lk_cons], w.heap.size, hgn, rfl⟩)
    refine ⟨w.heap.size, va.cells, rfl, blk.new w _ T, ?_⟩
    rw [hvs, ← hcs]
    exact hall.mono fun _ _ => CR.stays (stays_new (hw (st.nx, .box cs) (by simp)) (KeepF.alloc _ _ _) hg hS)
  cases v with
  | one c =>
    simp only [iBox] at he
    cases hc : c.ok with
    | false => simp [hc] at he
    | true =>
      simp only [hc, cond_true] at he
      injection he with he
      exact key [c] hc rfl he.symm
  | agg cs =>
    simp only [iBox] at he
    cases hc : cs.all ICell.ok with
    | false => simp [hc] at he
    | true =>
      simp only [hc, cond_true] at he
      injection he with he
      exact key cs hc rfl he.symm
  | tup => cases he
  | und => cases he
  | junk => cases he

theorem iAlloc_sound {T : TypeId} {e : Eff} (h : Sim cx g st a w) (hw : Fresh st.mem e.new) (he : iAlloc cx.P st.nx T = some e) : Runs cx st a w (Instr.alloc T true (.tuple #[])) e := by
  unfold iAlloc at he
  split at he
  · rename_i i hi
    split at he
    · rename_i z hz
      cases hok : (cstV z).ok with
      | false => simp [hok] at he
      | true =>
        simp only [hok, cond_true] at he
        injection he with he
        subst he
        refine ⟨.pointer (some ⟨w.heap.size, 0, none⟩), w.alloc (.cells z.cells T), by simp [Instr.alloc, zeroValue, typeInfo, hi, hz, newVar, newRow], ?_⟩
        refine Did.new h hw ⟨rfl, rfl⟩ (KeepF.alloc _ _ _) (blk.new w _ T) (fun g' hg hgn S' hS => ?_) (fun g' hgn S' => ⟨by simp [lk_cons], w.heap.size, hgn, rfl⟩)
        exact ⟨w.heap.size, z.cells, rfl, blk.new w _ T, cstV_cells z hok⟩
    · cases he
  · cases he

end
end Go.Ide
