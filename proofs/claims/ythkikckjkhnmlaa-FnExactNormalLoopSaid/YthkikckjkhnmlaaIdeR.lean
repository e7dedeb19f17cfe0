/-
  A call and what has become of memory behind it.
-/
import Derived.Test.YthkikckjkhnmlaaIdeQ
namespace Go.Ide

theorem Stays.mono {g : GM} {m : Mem} {S S' : Nat → Prop} {w : World} (h : ∀ b, S b → S' b) : Stays g g m m S S' w w :=
  ⟨fun b hb => ⟨h b hb, rfl⟩, fun _ hc => ⟨hc, rfl⟩, fun _ _ xs _ hl => ⟨xs, hl, rfl⟩, fun _ _ _ _ arr _ _ _ hb => ⟨arr, hb, rfl⟩⟩

theorem CV.mono {g : GM} {m : Mem} {S S' : Nat → Prop} {w : World} (h : ∀ b, S b → S' b) {ag : Bool} {cs : List ICell} {v : Value} (hc : CV g m S w ag cs v) : CV g m S' w ag cs v := by
  unfold CV at hc ⊢
  split at hc
  · obtain ⟨us, e', hu⟩ := hc; exact ⟨us, e', hu.mono fun _ _ => CR.stays (Stays.mono h)⟩
  · exact CR.stays (Stays.mono h) hc
  · exact hc.elim

section
variable {S S' : Nat → Prop} {w w' : World}

theorem OwnRep.mono (h : ∀ b, S b → S' b) : ∀ (t : Ty) {cs : List Value} {x : t.D} {F : List Nat}, OwnRep S w t cs x F → OwnRep S' w t cs x F
  | .int _, _, _, _, hr => hr
  | .flt _, _, _, _, hr => hr
  | .bool, _, _, _, hr => hr
  | .str, _, _, _, hr => hr
  | .pair a b, _, _, _, ⟨c1, c2, F1, F2, e1, e2, h1, h2⟩ => ⟨c1, c2, F1, F2, e1, e2, OwnRep.mono h a h1, OwnRep.mono h b h2⟩
  | .st t, _, _, _, hr => OwnRep.mono h t (cs := _) hr
  | .sl t, _, _, _, hr => by
    rcases hr with hr | ⟨b, cap, arr, k1, k2, k3, k4, k5, k6, k7, k8⟩
    · exact .inl hr
    · exact .inr ⟨b, cap, arr, k1, k2, k3, k4, k5, k6, k7, k8.keep fun b hb => ⟨h b hb, rfl⟩⟩

theorem OwnRep.flat1 : ∀ (t : Ty) {cs : List Value} {x : t.D} {F : List Nat}, t.flat1 = true → OwnRep S w t cs x F → OwnRep S' w t cs x F
  | .int _, _, _, _, _, hr => hr
  | .flt _, _, _, _, _, hr => hr
  | .bool, _, _, _, _, hr => hr
  | .str, _, _, _, _, hr => hr
  | .pair a b, _, _, _, hf, ⟨c1, c2, F1, F2, e1, e2, h1, h2⟩ => by
    simp only [Ty.flat1, Bool.and_eq_true] at hf
    exact ⟨c1, c2, F1, F2, e1, e2, OwnRep.flat1 a hf.1 h1, OwnRep.flat1 b hf.2 h2⟩
  | .st t, _, _, _, hf, hr => OwnRep.flat1 t (cs := _) hf hr
  | .sl t, _, _, _, hf, hr => by
    rcases hr with hr | ⟨b, cap, arr, k1, k2, k3, k4, k5, k6, k7, k8⟩
    · exact .inl hr
    · exact .inr ⟨b, cap, arr, k1, k2, k3, k4, k5, k6, k7, k8.flat hf⟩

theorem RVsR.mono (h : ∀ b, S b → S' b) : ∀ {rs : List RV} {vs : List Value} {F : List Nat}, RVsR S w rs vs F → RVsR S' w rs vs F
  | [], [], _, hr => hr
  | r :: rs, v :: vs, _, ⟨F1, F2, e, h1, h2⟩ => by
    refine ⟨F1, F2, e, ?_, RVsR.mono h h2⟩
    unfold RVR at h1 ⊢
    split at h1
    · rename_i hf
      rw [if_pos hf]
      obtain ⟨cs, k1, k2⟩ := h1
      exact ⟨cs, k1, OwnRep.mono h _ k2⟩
    · rename_i hf
      rw [if_neg hf]
      obtain ⟨k0, cs, k1, k2⟩ := h1
      exact ⟨k0, cs, k1, Rep.keep (fun b hb => ⟨h b hb, rfl⟩) _ _ _ k2⟩
  | [], _ :: _, _, hr => hr.elim
  | _ :: _, [], _, hr => hr.elim

theorem RVsR.alone : ∀ {rs : List RV} {vs : List Value} {F : List Nat}, rs.all RV.okAlone = true → RVsR S w rs vs F → RVsR S' w rs vs F
  | [], [], _, _, hr => hr
  | r :: rs, v :: vs, _, ho, ⟨F1, F2, e, h1, h2⟩ => by
    simp only [List.all_cons, Bool.and_eq_true] at ho
    refine ⟨F1, F2, e, ?_, RVsR.alone ho.2 h2⟩
    have ho1 := ho.1
    unfold RV.okAlone at ho1
    unfold RVR at h1 ⊢
    split at h1
    · rename_i hf
      rw [if_pos hf] at ho1 ⊢
      obtain ⟨cs, k1, k2⟩ := h1
      exact ⟨cs, k1, OwnRep.flat1 _ ho1 k2⟩
    · rename_i hf
      rw [if_neg hf] at ho1 ⊢
      obtain ⟨k0, cs, k1, k2⟩ := h1
      exact ⟨k0, cs, k1, Rep.flat _ ho1 k2⟩
  | [], _ :: _, _, _, hr => hr.elim
  | _ :: _, [], _, _, hr => hr.elim

end

theorem filterMap_inj : ∀ {l : List (Option Nat)} {i j b : Nat}, (l.filterMap id).Nodup → l[i]? = some (some b) → l[j]? = some (some b) → i = j
  | [], i, _, _, _, h, _ => by simp at h
  | o :: l, 0, 0, _, _, _, _ => rfl
  | o :: l, 0, j + 1, b, hn, hi, hj => by
    simp at hi hj
    subst hi
    simp at hn
    exact absurd (List.mem_of_getElem? hj) hn.1
  | o :: l, i + 1, 0, b, hn, hi, hj => by
    simp at hi hj
    subst hj
    simp at hn
    exact absurd (List.mem_of_getElem? hi) hn.1
  | o :: l, i + 1, j + 1, b, hn, hi, hj => by
    simp at hi hj
    have hn' : (l.filterMap id).Nodup := by
      cases o with
      | none => simpa using hn
      | some c => simp at hn; exact hn.2
    rw [filterMap_inj hn' hi hj]

theorem lk_mem {α : Type} : ∀ {l : List (Nat × α)} {k : Nat} {v : α}, lk k l = some v → (k, v) ∈ l
  | [], _, _, h => by simp [lk_nil] at h
  | (k', v') :: l, k, v, h => by
    rw [lk_cons] at h
    split at h
    · rename_i e; subst e; injection h with h; subst h; simp
    · exact List.mem_cons_of_mem _ (lk_mem h)

theorem lk_none {α : Type} : ∀ {l : List (Nat × α)} {k : Nat}, lk k l = none → k ∉ l.map Prod.fst
  | [], _, _ => by simp
  | (k', v') :: l, k, h => by
    rw [lk_cons] at h
    split at h
    · cases h
    · rename_i e
      simp only [List.map_cons, List.mem_cons, not_or]
      exact ⟨e, lk_none h⟩

theorem nodupB_spec : ∀ {l : List Nat}, nodupB l = true → l.Nodup
  | [], _ => by simp
  | a :: l, h => by
    simp only [nodupB, Bool.and_eq_true, Bool.not_eq_true'] at h
    refine List.nodup_cons.2 ⟨fun hm => ?_, nodupB_spec h.2⟩
    have : (l.any fun b => Nat.beq a b) = true := List.any_eq_true.2 ⟨a, hm, by simp⟩
    rw [this] at h
    cases h.1

section
variable {cx : Cx} {g : GM} {st : St} {a : Act} {w w' : World}

/-- Behind the call: new chunks, own ones written. -/
theorem Did.call {rs : List RV} {up : Mem} {ks F' : List Nat} {F : List Nat} {l : List (Nat × Nat)} {vs : List Value} {v : Value} {e : Eff} {SX : Nat → Prop} (h : Sim cx g st a w) (hw : Fresh st.mem e.new)
    (he : e = ⟨resV (explR rs st.nx).1, keysFrom st.nx (explR rs st.nx).2, up, e.cond⟩) (hk : KeepF F w w') (hF : F = l.map Prod.snd) (hl : ∀ p ∈ l, g p.1 = some p.2 ∧ ∃ t xs, lk p.1 st.mem = some (.seq t xs))
    (hsub : (l.map Prod.fst).Sublist ks) (hup : up.map Prod.fst = ks) (hu : UpdOK g st.mem w' up) (hn : F'.Nodup) (hnew : ∀ b, b ∈ F' → w.heap.size ≤ b ∧ b < w'.heap.size)
    (hSX : ∀ b, SX b → b < w'.heap.size ∧ (b < cx.w0.heap.size → cx.S b) ∧ ¬ Live g st.mem b ∧ b ∉ F') (hr : RVsR SX w' rs vs F') (hv : ResOf vs v) : Did cx st a e v w' := by
  obtain ⟨asg, hal, hab, hlaid⟩ := explR_rel st.nx hr
  let chs := (explR rs st.nx).2
  let g' : GM := fun k => if st.nx ≤ k then (match asg[k - st.nx]? with | some o => o | none => g k) else g k
  have hnewkey : ∀ j, j < chs.length → lk (st.nx + j) st.mem = none := fun j hj => by
    have hin : (st.nx + j, chs[j]) ∈ e.new := by
      rw [he]
      exact lk_mem (by rw [lk_keysFrom, if_pos (by omega), show st.nx + j - st.nx = j from by omega]; exact List.getElem?_eq_getElem hj)
    exact hw _ hin
  let m' : Mem := up ++ keysFrom st.nx chs ++ st.mem
  have hold : ∀ k, lk k st.mem ≠ none → st.nx ≤ k → chs.length ≤ k - st.nx := fun k hne hle => by
    rcases Nat.lt_or_ge (k - st.nx) chs.length with hlt | hge
    · exact absurd (by have := hnewkey _ hlt; rwa [show st.nx + (k - st.nx) = k from by omega] at this) hne
    · exact hge
  have hg'old : ∀ k, lk k st.mem ≠ none → g' k = g k := fun k hne => by
    show (if st.nx ≤ k then _ else _) = _
    by_cases hle : st.nx ≤ k
    · rw [if_pos hle, List.getElem?_eq_none (by rw [hal]; exact hold k hne hle)]
    · rw [if_neg hle]
  have hg'new : ∀ j o, asg[j]? = some o → g' (st.nx + j) = o := fun j o hj => by
    show (if st.nx ≤ st.nx + j then _ else _) = _
    rw [if_pos (by omega), show st.nx + j - st.nx = j from by omega, hj]
  have hupold : ∀ k ch, lk k up = some ch → ∃ t xs, lk k st.mem = some (.seq t xs) := fun k ch hk => by
    obtain ⟨t, xs, xs', h1, _⟩ := hu _ (lk_mem hk)
    exact ⟨t, xs, h1⟩
  have hm'new : ∀ j ch, chs[j]? = some ch → lk (st.nx + j) m' = some ch := fun j ch hj => by
    show lk _ (up ++ keysFrom st.nx chs ++ st.mem) = _
    have h1 : lk (st.nx + j) up = none := by
      cases hx : lk (st.nx + j) up with
      | none => rfl
      | some c0 =>
        obtain ⟨t, xs, h1⟩ := hupold _ _ hx
        rw [hnewkey j (List.getElem?_eq_some_iff.1 hj).1] at h1
        cases h1
    rw [lk_append, lk_append, h1, lk_keysFrom, if_pos (by omega), show st.nx + j - st.nx = j from by omega, hj]
    rfl
  have hm'old : ∀ k ch, lk k st.mem = some ch → lk k up = none → lk k m' = some ch := fun k ch hk hup0 => by
    show lk _ (up ++ keysFrom st.nx chs ++ st.mem) = _
    have hkf : lk k (keysFrom st.nx chs) = none := by
      rw [lk_keysFrom]
      by_cases hle : st.nx ≤ k
      · rw [if_pos hle]; exact List.getElem?_eq_none (hold k (by rw [hk]; simp) hle)
      · rw [if_neg hle]
    rw [lk_append, lk_append, hup0, hkf, hk]
    rfl
  have hm'inv : ∀ k ch, lk k m' = some ch → lk k st.mem = none → ∃ j, k = st.nx + j ∧ chs[j]? = some ch := fun k ch hk hnone => by
    have hk : lk k (up ++ keysFrom st.nx chs ++ st.mem) = some ch := hk
    have hup0 : lk k up = none := by
      cases hx : lk k up with
      | none => rfl
      | some c0 =>
        obtain ⟨t, xs, h1⟩ := hupold _ _ hx
        rw [h1] at hnone
        cases hnone
    rw [lk_append, lk_append, hup0, lk_keysFrom, hnone] at hk
    by_cases hle : st.nx ≤ k
    · rw [if_pos hle] at hk
      refine ⟨k - st.nx, by omega, ?_⟩
      cases hx : chs[k - st.nx]? with
      | none => rw [hx] at hk; simp at hk
      | some c0 => rw [hx] at hk; simpa using hk
    · rw [if_neg hle] at hk; simp at hk
  have hlt : ∀ k ch b, lk k st.mem = some ch → ch ≠ .gone → g k = some b → b < w.heap.size := fun k ch b h1 h2 h3 => h.live_lt h1 h2 h3
  obtain ⟨hcv, hld⟩ := hlaid g' m' hm'new hg'new
  have hF'asg : ∀ j b, asg[j]? = some (some b) → b ∈ F' := fun j b hj => by
    rw [← hab]; exact List.mem_filterMap.2 ⟨some b, List.mem_of_getElem? hj, rfl⟩
  -- what a key of the new memory is
  have hcase : ∀ k ch, lk k m' = some ch → ch ≠ .gone → (∃ c0, lk k st.mem = some c0 ∧ c0 ≠ .gone) ∨ (lk k st.mem = none ∧ ∃ j o, k = st.nx + j ∧ asg[j]? = some o) := fun k ch hk hn => by
    cases ho : lk k st.mem with
    | none =>
      obtain ⟨j, e, hj⟩ := hm'inv k ch hk ho
      obtain ⟨_, o, ho', _⟩ := hld.chunk j ch hj
      exact .inr ⟨rfl, j, o, e, ho'⟩
    | some c0 =>
      left
      refine ⟨c0, rfl, fun e => ?_⟩
      cases hx : lk k up with
      | none => rw [hm'old k c0 ho hx] at hk; injection hk with hk; rw [← hk] at hn; exact hn e
      | some c1 =>
        obtain ⟨t, xs, h1⟩ := hupold _ _ hx
        rw [h1] at ho
        injection ho with ho
        rw [← ho] at e
        cases e
  have hsafe : ∀ b, SX b → cx.safe g' m' w' b := fun b hb => by
    obtain ⟨h1, h2, h3, h4⟩ := hSX b hb
    refine ⟨h1, h2, ?_⟩
    rintro ⟨k, ch, hk', hn', hg'⟩
    rcases hcase k ch hk' hn' with ⟨c0, ho, hn0⟩ | ⟨_, j, o, e, hj⟩
    · exact h3 ⟨k, c0, ho, hn0, by rw [← hg'old k (by rw [ho]; simp)]; exact hg'⟩
    · subst e
      rw [hg'new j o hj] at hg'
      subst hg'
      exact h4 (hF'asg j b hj)
  have t : Turn cx g g' st.mem m' w w' F := by
    refine ⟨hk, fun b hb => ?_, hg'old, fun k ch ho => ?_, fun k ch ho hk' => ?_⟩
    · rw [hF] at hb
      obtain ⟨p, hp, rfl⟩ := List.mem_map.1 hb
      obtain ⟨h1, t, xs, h2⟩ := hl p hp
      exact ⟨p.1, _, h2, by simp, h1⟩
    · cases hx : lk k up with
      | none =>
        refine .inl ⟨hm'old k ch ho hx, fun hn b hgb hbF => ?_⟩
        rw [hF] at hbF
        obtain ⟨p, hp, hpb⟩ := List.mem_map.1 hbF
        obtain ⟨h1, t, xs, h2⟩ := hl p hp
        have := h.inj k p.1 ch _ b ho hn h2 (by simp) hgb (by rw [h1, hpb])
        subst this
        have hmem : p.1 ∈ up.map Prod.fst := by rw [hup]; exact hsub.subset (List.mem_map.2 ⟨p, hp, rfl⟩)
        exact lk_none hx hmem
      | some c1 =>
        obtain ⟨t, xs, xs', h1, h2, h3, h4⟩ := hu _ (lk_mem hx)
        simp only at h1 h2 h3 h4
        rw [ho] at h1
        injection h1 with h1
        subst h1
        subst h2
        refine .inr (.inr ⟨by simp, .seq t xs', ?_, by simp, fun t0 xs0 e => ?_, fun b arr _ hb => hk.sz b arr hb, ?_⟩)
        · show lk _ (up ++ keysFrom st.nx chs ++ st.mem) = _
          rw [lk_append, lk_append, hx]
          rfl
        · injection e with e1 e2
          subst e1
          have e2 := eq_of_heq e2
          subst e2
          exact ⟨xs, rfl, h3⟩
        · rw [hg'old k (by rw [ho]; simp)]
          cases hgk : g k with
          | none => rw [hgk] at h4; exact h4
          | some b =>
            rw [hgk] at h4
            obtain ⟨arr, k1, k2, k3⟩ := h4
            exact ⟨arr, k1, k2.flat k3⟩
    · obtain ⟨j, e, hj⟩ := hm'inv k ch hk' ho
      subst e
      obtain ⟨hng, o, hoj, hch⟩ := hld.chunk j ch hj
      refine ⟨?_, fun _ b hgb => ?_⟩
      · rw [hg'new j o hoj]
        exact ChR.stays (Stays.mono hsafe) (fun _ _ => rfl) hch
      · rw [hg'new j o hoj] at hgb
        subst hgb
        have hbF := hF'asg j b hoj
        refine ⟨.inl (hnew b hbF).1, fun k' ch' hk2 hn2 hg2 => ?_⟩
        rcases hcase k' ch' hk2 hn2 with ⟨c0, ho2, hn0⟩ | ⟨_, j2, o2, e2, hj2⟩
        · have := hlt k' c0 b ho2 hn0 (by rw [← hg'old k' (by rw [ho2]; simp)]; exact hg2)
          have := (hnew b hbF).1
          omega
        · subst e2
          rw [hg'new j2 o2 hj2] at hg2
          subst hg2
          have hn' : (asg.filterMap id).Nodup := by rw [hab]; exact hn
          rw [filterMap_inj hn' hj2 hoj]
  have hs := h.turn (nx' := st.nx + (keysFrom st.nx chs).length) t
  refine ⟨g', ?_, ?_⟩
  · rw [he]; exact hs
  · rw [he]
    exact VR.stays (Stays.mono hsafe) (resV_VR hcv hv)

theorem iCall_sound {ms : List Mode} {rs : List RV} {outs : List TD} {f : FuncId} {vs : List IVal} {vals : List Value} {e : Eff} (h : Sim cx g st a w) (hw : Fresh st.mem e.new) (he : iCall cx.P st.mem st.nx ms rs outs f vs = some e) (hc : AllP e.cond)
    (hv : All2 (VR g st.mem (cx.safe g st.mem w) w) vs vals) : CanCall cx.P f ∧ Calls cx.P f vals.toArray w fun en w' => ∃ v, en = .returned v ∧ Did cx st a e v w' := by
  unfold iCall at he
  split at he
  · rename_i ks up hks hup
    split at he
    · rename_i as has
      cases hb : (ks.isEmpty && noOwn ms) with
      | false => rw [hb] at he; cases he
      | true =>
        rw [hb] at he
        simp only [cond_true] at he
        simp only [Bool.and_eq_true, List.isEmpty_iff] at hb
        injection he with he
        obtain ⟨hk0, hno⟩ := hb
        subst hk0
        have hcc : CallOK cx.P f as rs outs := by rw [← he] at hc; exact hc.1
        obtain ⟨Fs, l, k1, k2, k3, k4, k5⟩ := args_rel (mA := []) (m2 := []) (S2 := cx.safe g st.mem w) h.mem (fun _ h => h) ReadM.nil (.inl rfl) (fun c cs b hl => by simp [lk_nil] at hl) (.inr hno) has hks hup hv
        have hl0 : l = [] := by
          have := k3.length_le
          simp at this
          exact this
        subst hl0
        have hF0 : Fs.flatten = [] := k2
        refine ⟨hcc.1, (hcc.2 w (cx.safe g st.mem w) vals Fs (fun b hb => ⟨hb.1, by rw [hF0]; simp⟩) (by rw [hF0]; simp) (by rw [hF0]; simp) k1).mono ?_⟩
        rintro en w' ⟨v, F', e1, ⟨us, hrv, hus⟩, hn, hnew, hkeep, houts⟩
        refine ⟨v, e1, ?_⟩
        obtain ⟨u1, u2⟩ := k5 w' _ hkeep.sz (.inr hno) houts
        refine Did.call (SX := Behind (cx.safe g st.mem w) w w' F') (l := []) (ks := []) (up := up) h hw (by rw [← he]) hkeep (by rw [hF0]; rfl) (by simp) (by simp) u1 u2 hn hnew (fun b hb => ?_) hrv hus
        obtain ⟨h1, h2, h3⟩ := hb
        refine ⟨h1, fun hlt => ?_, ?_, h3⟩
        · exact (h2 (Nat.lt_of_lt_of_le hlt h.keep.size)).2.1 hlt
        · rintro ⟨k, ch, q1, q2, q3⟩
          exact (h2 (h.live_lt q1 q2 q3)).2.2 ⟨k, ch, q1, q2, q3⟩
    · cases hb : ((rs.all RV.okAlone && modesFlat ms) && nodupB ks) with
      | false => rw [hb] at he; cases he
      | true =>
        rw [hb] at he
        simp only [cond_true] at he
        simp only [Bool.and_eq_true] at hb
        obtain ⟨⟨halone, hflat⟩, hnd⟩ := hb
        split at he
        · rename_i as has
          injection he with he
          have hcc : CallOK cx.P f as rs outs := by rw [← he] at hc; exact hc.1
          have hknd := nodupB_spec hnd
          -- the blocks that the call does not write
          let S2 : Nat → Prop := fun b => b < w.heap.size ∧ ∀ c, c ∈ ks → g c = some b → ∀ t xs, lk c st.mem = some (.seq t xs) → False
          have hlkg : ∀ (k : Nat) (l : List Nat), k ∉ l → lk k ((l.map fun k => (k, Chunk.gone)) ++ st.mem) = lk k st.mem := by
            intro k l
            induction l with
            | nil => intro _; rfl
            | cons q l ih =>
              intro hk
              simp only [List.mem_cons, not_or] at hk
              simp only [List.map_cons, List.cons_append]
              rw [lk_cons, if_neg hk.1]
              exact ih hk.2
          have hlkg' : ∀ (k : Nat) (l : List Nat), k ∈ l → lk k ((l.map fun k => (k, Chunk.gone)) ++ st.mem) = some .gone := by
            intro k l
            induction l with
            | nil => intro hk; simp at hk
            | cons q l ih =>
              intro hk
              simp only [List.map_cons, List.cons_append]
              rw [lk_cons]
              by_cases e : k = q
              · rw [if_pos e]
              · rw [if_neg e]
                exact ih (by simpa [e] using hk)
          have hR : ReadM g st.mem ((ks.map fun k => (k, Chunk.gone)) ++ st.mem) S2 w := by
            intro k t xs hl
            by_cases hk : k ∈ ks
            · rw [hlkg' k ks hk] at hl; cases hl
            · rw [hlkg k ks hk] at hl
              refine ⟨hl, ?_⟩
              have hch := h.mem k _ hl
              cases hg : g k with
              | none => rw [hg] at hch; exact hch
              | some b =>
                rw [hg] at hch
                obtain ⟨arr, q1, q2⟩ := hch
                refine ⟨⟨q1.lt, fun c hc hgc t' xs' hl' => ?_⟩, arr, q1, q2.keep fun b' hb' => ⟨⟨hb'.1, fun c hc hgc t' xs' hl' => hb'.2.2 ⟨c, _, hl', by simp, hgc⟩⟩, rfl⟩⟩
                have := h.inj k c _ _ b hl (by simp) hl' (by simp) hg hgc
                subst this
                exact hk hc
          obtain ⟨Fs, l, k1, k2, k3, k4, k5⟩ := args_rel (mA := st.mem) (m2 := (ks.map fun k => (k, Chunk.gone)) ++ st.mem) (S2 := S2) h.mem (fun b hb => ⟨hb.1, fun c hc hgc t' xs' hl' => hb.2.2 ⟨c, _, hl', by simp, hgc⟩⟩) hR (.inr rfl)
            (fun c cs b hl hg => ⟨h.live_lt hl (by simp) hg, fun c' hc' hgc' t' xs' hl' => by
              have := h.inj c c' _ _ b hl (by simp) hl' (by simp) hg hgc'
              subst this
              rw [hl] at hl'
              cases hl'⟩) (.inl rfl) has hks hup hv
          have hmemF : ∀ b, b ∈ Fs.flatten → ∃ c, c ∈ ks ∧ g c = some b ∧ ∃ t xs, lk c st.mem = some (.seq t xs) := by
            intro b hb
            rw [k2] at hb
            obtain ⟨p, hp, rfl⟩ := List.mem_map.1 hb
            exact ⟨p.1, k3.subset (List.mem_map.2 ⟨p, hp, rfl⟩), k4 p hp⟩
          have hFn : Fs.flatten.Nodup := by
            rw [k2]
            have h1 : (l.map Prod.fst).Nodup := k3.nodup hknd
            have : ∀ l : List (Nat × Nat), (∀ p ∈ l, g p.1 = some p.2 ∧ ∃ t xs, lk p.1 st.mem = some (.seq t xs)) → (l.map Prod.fst).Nodup → (l.map Prod.snd).Nodup := by
              intro l
              induction l with
              | nil => intro _ _; simp
              | cons p l ih =>
                intro hp hn
                simp only [List.map_cons, List.nodup_cons] at hn ⊢
                refine ⟨fun hmem => ?_, ih (fun q hq => hp q (List.mem_cons_of_mem _ hq)) hn.2⟩
                obtain ⟨q, hq, e⟩ := List.mem_map.1 hmem
                obtain ⟨a1, t1, x1, b1⟩ := hp p (by simp)
                obtain ⟨a2, t2, x2, b2⟩ := hp q (List.mem_cons_of_mem _ hq)
                have := h.inj p.1 q.1 _ _ p.2 b1 (by simp) b2 (by simp) a1 (by rw [a2, e])
                exact hn.1 (by rw [this]; exact List.mem_map.2 ⟨q, hq, rfl⟩)
            exact this l k4 h1
          refine ⟨hcc.1, (hcc.2 w S2 vals Fs (fun b hb => ⟨hb.1, fun hbF => ?_⟩) hFn (fun b hbF => ?_) k1).mono ?_⟩
          · obtain ⟨c, h1, h2, t, xs, h3⟩ := hmemF b hbF
            exact hb.2 c h1 h2 t xs h3
          · obtain ⟨c, h1, h2, t, xs, h3⟩ := hmemF b hbF
            exact h.live_lt h3 (by simp) h2
          rintro en w' ⟨v, F', e1, ⟨us, hrv, hus⟩, hn, hnew, hkeep, houts⟩
          refine ⟨v, e1, ?_⟩
          obtain ⟨u1, u2⟩ := k5 w' _ hkeep.sz (.inl hflat) houts
          exact Did.call (SX := fun b => b < w'.heap.size ∧ (b < cx.w0.heap.size → cx.S b) ∧ ¬ Live g st.mem b ∧ b ∉ F') (l := l) (ks := ks) (up := up) h hw (by rw [← he]) hkeep k2 k4 k3 u1 u2 hn hnew (fun b hb => hb) (RVsR.alone halone hrv) hus
        · cases he
  · cases he

end
end Go.Ide
