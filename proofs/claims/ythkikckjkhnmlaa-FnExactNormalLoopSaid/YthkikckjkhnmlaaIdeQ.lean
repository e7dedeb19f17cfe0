/-
  Calls: the whole.
-/
import Derived.Test.YthkikckjkhnmlaaIdeP
namespace Go.Ide

section
variable {g : GM} {m : Mem} {S S2 : Nat → Prop} {w : World}

theorem args_rel (hm : ChAll g m S w) (hS : ∀ b, S b → S2 b) {mA m2 : Mem} (hR : ReadM g m m2 S2 w) (hA : mA = [] ∨ mA = m)
    (hbox : ∀ c cs b, lk c mA = some (.box cs) → g c = some b → S2 b) :
    ∀ {ms : List Mode} {vs : List IVal} {vals : List Value} {as : List Arg} {ks : List Nat} {up : Mem} {outs : List TD}, (mA = m ∨ noOwn ms = true) →
      argsOf mA m2 ms vs = some as → ownKeysAll m ms vs = some ks → ownUpdAll ms vs outs = some up → All2 (VR g m S w) vs vals →
      ∃ Fs : List (List Nat), ∃ l : List (Nat × Nat), ArgsR S2 w as vals Fs ∧ Fs.flatten = l.map Prod.snd ∧ (l.map Prod.fst).Sublist ks ∧ (∀ p ∈ l, g p.1 = some p.2 ∧ ∃ t xs, lk p.1 m = some (.seq t xs)) ∧
        (∀ (w' : World) (SO : Nat → Prop), (∀ b arr, blk w b arr → ∃ arr', blk w' b arr' ∧ arr'.size = arr.size) → (modesFlat ms = true ∨ noOwn ms = true) → OutsR SO w' as vals Fs outs → up.map Prod.fst = ks ∧ UpdOK g m w' up)
  | [], [], vals, as, ks, up, outs, _, h1, h2, h3, h4 => by
    cases vals with
    | cons => exact h4.elim
    | nil =>
      simp only [argsOf] at h1
      injection h1 with h1
      subst h1
      simp only [ownKeysAll] at h2
      injection h2 with h2
      subst h2
      cases outs with
      | cons => simp [ownUpdAll] at h3
      | nil =>
        simp only [ownUpdAll] at h3
        injection h3 with h3
        subst h3
        exact ⟨[], [], trivial, rfl, by simp, by simp, fun _ _ _ _ _ => ⟨rfl, fun p hp => by simp at hp⟩⟩
  | md :: ms, v :: vs, [], as, ks, up, outs, _, h1, h2, h3, h4 => h4.elim
  | md :: ms, v :: vs, u :: vals, as, ks, up, outs, hno, h1, h2, h3, h4 => by
    -- a mode that is not 'own'
    have other : ∀ (hmd : ∀ t, md ≠ .own t), ∃ Fs : List (List Nat), ∃ l : List (Nat × Nat), ArgsR S2 w as (u :: vals) Fs ∧ Fs.flatten = l.map Prod.snd ∧ (l.map Prod.fst).Sublist ks ∧ (∀ p ∈ l, g p.1 = some p.2 ∧ ∃ t xs, lk p.1 m = some (.seq t xs)) ∧
        (∀ (w' : World) (SO : Nat → Prop), (∀ b arr, blk w b arr → ∃ arr', blk w' b arr' ∧ arr'.size = arr.size) → (modesFlat (md :: ms) = true ∨ noOwn (md :: ms) = true) → OutsR SO w' as (u :: vals) Fs outs → up.map Prod.fst = ks ∧ UpdOK g m w' up) := by
      intro hmd
      have e1 : argsOf mA m2 (md :: ms) (v :: vs) = (match argP mA m2 md v, argsOf mA m2 ms vs with | some a, some as => some (a :: as) | _, _ => none) := by
        cases md <;> first | rfl | exact absurd rfl (hmd _)
      have e2 : ownKeysAll m (md :: ms) (v :: vs) = ownKeysAll m ms vs := by cases md <;> first | rfl | exact absurd rfl (hmd _)
      have e3 : ownUpdAll (md :: ms) (v :: vs) outs = ownUpdAll ms vs outs := by cases md <;> first | rfl | exact absurd rfl (hmd _)
      have e4 : modesFlat (md :: ms) = modesFlat ms := by cases md <;> first | rfl | exact absurd rfl (hmd _)
      have e5 : noOwn (md :: ms) = noOwn ms := by cases md <;> first | rfl | exact absurd rfl (hmd _)
      rw [e1] at h1
      rw [e2] at h2
      rw [e3] at h3
      split at h1
      · rename_i a as' ha has
        injection h1 with h1
        subst h1
        obtain ⟨Fs, l, k1, k2, k3, k4, k5⟩ := args_rel hm hS hR hA hbox (by rw [← e5]; exact hno) has h2 h3 h4.2
        have harg : ArgR S2 w a u [] ∧ ∀ t x, a ≠ .own t x := by
          have hv := h4.1
          -- by cases on the mode
          have imm : ∀ t, md = .imm t → ArgR S2 w a u [] ∧ ∀ t x, a ≠ .own t x := by
            intro t e
            subst e
            have ha : argOf m2 (.imm t) v = some a := ha
            simp only [argOf] at ha
            split at ha
            · rename_i x hx
              injection ha with ha
              subst ha
              obtain ⟨cs, q1, q2⟩ := vdat_rep hS hR hx hv
              exact ⟨⟨rfl, cs, q1, q2⟩, fun _ _ e => by cases e⟩
            · cases ha
          have ipc : ∀ t t' x off, argOf m2 (.pimm t) (.one (.ip t' x off)) = some a → VR g m S w (.one (.ip t' x off)) u → ArgR S2 w a u [] ∧ ∀ t x, a ≠ .own t x := by
            intro t t' x off ha hv
            simp only [argOf] at ha
            split at ha
            · rename_i y hy
              injection ha with ha
              subst ha
              obtain ⟨ad, es, e, hs, hcell, hrep⟩ := hv
              have hall : All2 (CR g m S w) (expl t' x) es := expl_rel t' hrep
              obtain ⟨v1, v2, e2, r1, r2⟩ := impl_rep hS hR t hy ((hall.drop off).take t.size)
              have : v2 = [] := by cases v2 with | nil => rfl | cons => exact r2.elim
              subst this
              refine ⟨⟨rfl, ad.add off, v1, e, by rw [add_block]; exact hS _ hs, fun j q hq => ?_, r1⟩, fun _ _ e => by cases e⟩
              rw [add_add]
              rw [List.append_nil] at e2
              rw [← e2, List.getElem?_take] at hq
              split at hq
              · exact hcell _ q (by simpa using hq)
              · cases hq
            · cases ha
          cases md with
          | own t => exact absurd rfl (hmd t)
          | imm t => exact imm t rfl
          | fn =>
            cases v with
            | one c =>
              cases c with
              | fn f =>
                simp only [argP, argOf] at ha
                injection ha with ha
                subst ha
                exact ⟨⟨rfl, hv⟩, fun _ _ e => by cases e⟩
              | _ => simp [argP, argOf] at ha
            | _ => simp [argP, argOf] at ha
          | pimm t =>
            cases v with
            | one c =>
              cases c with
              | ip t' x off => exact ipc t t' x off ha hv
              | ptr c off =>
                simp only [argP] at ha
                split at ha
                · rename_i cs hl
                  split at ha
                  · rename_i y hy
                    injection ha with ha
                    subst ha
                    obtain ⟨_, b, hg, e⟩ := hv
                    have hlm : lk c m = some (.box cs) := by
                      rcases hA with hA | hA
                      · rw [hA] at hl; simp [lk_nil] at hl
                      · rw [← hA]; exact hl
                    obtain ⟨b', arr, hg', hblk, hall⟩ := hm c _ hlm
                    rw [hg] at hg'
                    injection hg' with hg'
                    subst hg'
                    obtain ⟨v1, v2, e2, r1, r2⟩ := impl_rep hS hR t hy ((hall.drop off).take t.size)
                    have : v2 = [] := by cases v2 with | nil => rfl | cons => exact r2.elim
                    subst this
                    refine ⟨⟨rfl, ⟨b, off, none⟩, v1, e, hbox c cs b hl hg, fun j q hq => ?_, r1⟩, fun _ _ e => by cases e⟩
                    rw [add_none, hblk.cell]
                    rw [List.append_nil] at e2
                    rw [← e2, List.getElem?_take] at hq
                    split at hq
                    · simpa using hq
                    · cases hq
                  · cases ha
                · cases ha
              | _ => simp [argP, argOf] at ha
            | _ => simp [argP, argOf] at ha
        refine ⟨[] :: Fs, l, ⟨harg.1, k1⟩, by simpa using k2, k3, k4, fun w' SO hsz hf ho => ?_⟩
        refine k5 w' SO hsz (by rw [e4, e5] at hf; exact hf) ?_
        cases a with
        | own t x => exact absurd rfl (harg.2 t x)
        | imm t x => exact ho
        | pimm t x => exact ho
        | fn f => exact ho
      · cases h1
    cases md with
    | imm t => exact other (fun _ e => by cases e)
    | pimm t => exact other (fun _ e => by cases e)
    | fn => exact other (fun _ e => by cases e)
    | own t =>
      have hmA : mA = m := by
        rcases hno with hno | hno
        · exact hno
        · cases hno
      simp only [argsOf] at h1
      split at h1
      · rename_i a as' ha has
        injection h1 with h1
        subst h1
        simp only [argOf] at ha
        split at ha
        · rename_i x hx
          rw [hmA] at hx
          injection ha with ha
          subst ha
          simp only [ownKeysAll] at h2
          split at h2
          · rename_i ks1 ks2 hk1 hk2
            injection h2 with h2
            subst h2
            cases outs with
            | nil => simp [ownUpdAll] at h3
            | cons o outs =>
              simp only [ownUpdAll] at h3
              split at h3
              · rename_i ht
                split at h3
                · rename_i u1 u2 hu1 hu2
                  injection h3 with h3
                  subst h3
                  obtain ⟨Fs, l, k1, k2, k3, k4, k5⟩ := args_rel hm hS hR hA hbox (.inl hmA) has hk2 hu2 h4.2
                  -- the value's cells
                  have hcells : ∃ vcs, ValOf t vcs u ∧ All2 (CR g m S w) v.cells vcs ∧ impl m t v.cells = some (x, []) := by
                    have hv := h4.1
                    unfold vdat at hx
                    split at hx
                    · rename_i c hst
                      split at hx
                      · rename_i y hy
                        injection hx with hx
                        subst hx
                        exact ⟨[u], by simp [ValOf, hst], ⟨hv, trivial⟩, hy⟩
                      · cases hx
                    · rename_i cs hst
                      split at hx
                      · rename_i y hy
                        injection hx with hx
                        subst hx
                        obtain ⟨vs', e, hvs⟩ := hv
                        exact ⟨vs', by simp [ValOf, hst, e], hvs, hy⟩
                      · cases hx
                    · cases hx
                  obtain ⟨vcs, hval, hall, himp⟩ := hcells
                  obtain ⟨v1, v2, l1, e1, o1, a1, q1, s1, p1⟩ := own_rel hm hS t himp hk1 hall
                  have : v2 = [] := by cases v2 with | nil => rfl | cons => exact a1.elim
                  subst this
                  rw [List.append_nil] at e1
                  subst e1
                  refine ⟨(l1.map Prod.snd) :: Fs, l1 ++ l, ⟨⟨vcs, hval, o1⟩, k1⟩, by simp [k2], by simpa using s1.append k3, fun p hp => ?_, fun w' SO hsz hf ho => ?_⟩
                  · rcases List.mem_append.1 hp with hp | hp
                    · exact p1 p hp
                    · exact k4 p hp
                  · have hf : t.flat1 = true ∧ modesFlat ms = true := by
                      rcases hf with hf | hf
                      · simpa [modesFlat] using hf
                      · cases hf
                    obtain ⟨⟨ht', cs', hval', own'⟩, ho'⟩ := ho
                    have hcs : cs' = vcs := by
                      unfold ValOf at hval hval'
                      split at hval
                      · rename_i hst
                        rw [if_pos hst] at hval'
                        rw [hval] at hval'
                        simpa using hval'.symm
                      · rename_i hst
                        rw [if_neg hst] at hval'
                        rw [hval, hval']
                    subst hcs
                    obtain ⟨g1, g2, _⟩ := upd_rel (v2 := []) hm hsz t hf.1 himp hk1 hu1 hall (by simp) own'
                    obtain ⟨g3, g4⟩ := k5 w' SO hsz (.inl hf.2) ho'
                    refine ⟨by simp [g1, g3], fun p hp => ?_⟩
                    rcases List.mem_append.1 hp with hp | hp
                    · exact g2 p hp
                    · exact g4 p hp
                · cases h3
              · cases h3
          · cases h2
        · cases ha
      · cases h1
  | [], _ :: _, _, _, _, _, _, _, h1, _, _, _ => by simp [argsOf] at h1
  | md :: _, [], _, _, _, _, _, _, h1, _, _, _ => by cases md <;> simp [argsOf] at h1

end
end Go.Ide
