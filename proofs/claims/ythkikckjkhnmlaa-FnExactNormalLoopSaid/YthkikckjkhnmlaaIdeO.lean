/-
  Calls: arguments, results, what has become of memory.
-/
import Derived.Test.YthkikckjkhnmlaaIdeN
namespace Go.Ide

section
variable {g : GM} {m : Mem} {S S2 : Nat → Prop} {w : World}

theorem OwnRep.len : ∀ (t : Ty) {cs : List Value} {x : t.D} {F : List Nat}, OwnRep S w t cs x F → cs.length = t.size
  | .int _, _, _, _, h => Rep.len _ _ _ h.2
  | .flt _, _, _, _, h => Rep.len _ _ _ h.2
  | .bool, _, _, _, h => Rep.len _ _ _ h.2
  | .str, _, _, _, h => Rep.len _ _ _ h.2
  | .pair a b, _, _, _, ⟨c1, c2, F1, F2, e, _, h1, h2⟩ => by subst e; simp [Ty.size, OwnRep.len a h1, OwnRep.len b h2]
  | .st t, _, _, _, h => OwnRep.len t (cs := _) h
  | .sl t, _, _, _, h => by
    rcases h with ⟨_, _, a, e⟩ | ⟨b, cap, arr, _, e, _⟩ <;> subst e <;> rfl

theorem Rep.flat {w' : World} : ∀ (t : Ty) {cs : List Value} {x : t.D}, t.flat = true → Rep S w t cs x → Rep S2 w' t cs x
  | .int _, _, _, _, h => h
  | .flt _, _, _, _, h => h
  | .bool, _, _, _, h => h
  | .str, _, _, _, h => h
  | .sl _, _, _, hf, _ => by cases hf
  | .pair a b, _, _, hf, ⟨c1, c2, e, h1, h2⟩ => by
    simp only [Ty.flat, Bool.and_eq_true] at hf
    exact ⟨c1, c2, e, Rep.flat a hf.1 h1, Rep.flat b hf.2 h2⟩
  | .st t, _, _, hf, h => Rep.flat t (cs := _) hf h

theorem ElsR.flat {w' : World} {t : Ty} {xs : List t.D} {arr : Array Value} (hf : t.flat = true) (h : ElsR S w t xs arr) : ElsR S2 w' t xs arr :=
  fun i hi => let ⟨es, h1, h2⟩ := h i hi; ⟨es, h1, Rep.flat t hf h2⟩

/-- An argument of the call's own. -/
theorem own_rel (hm : ChAll g m S w) (hS : ∀ b, S b → S2 b) : ∀ (t : Ty) {ics : List ICell} {x : t.D} {r r' : List ICell} {ks : List Nat} {vs : List Value},
    impl m t ics = some (x, r) → ownKeys m t ics = some (ks, r') → All2 (CR g m S w) ics vs →
    ∃ v1 v2, ∃ l : List (Nat × Nat), vs = v1 ++ v2 ∧ OwnRep S2 w t v1 x (l.map Prod.snd) ∧ All2 (CR g m S w) r v2 ∧ r' = r ∧ (l.map Prod.fst).Sublist ks ∧ ∀ p ∈ l, g p.1 = some p.2 ∧ ∃ t xs, lk p.1 m = some (.seq t xs) := by
  have prim : ∀ (t : Ty) (hp : ∀ cs x F, F = [] ∧ Rep S2 w t cs x → OwnRep S2 w t cs x F) {ics : List ICell} {x : t.D} {r r' : List ICell} {ks : List Nat} {vs : List Value},
      impl1 m t ics = some (x, r) → (match ics with | .dat _ _ :: r => some ([], r) | _ => none) = some (ks, r') → All2 (CR g m S w) ics vs →
      ∃ v1 v2, ∃ l : List (Nat × Nat), vs = v1 ++ v2 ∧ OwnRep S2 w t v1 x (l.map Prod.snd) ∧ All2 (CR g m S w) r v2 ∧ r' = r ∧ (l.map Prod.fst).Sublist ks ∧ ∀ p ∈ l, g p.1 = some p.2 ∧ ∃ t xs, lk p.1 m = some (.seq t xs) := by
    intro t hp ics x r r' ks vs h1 h2 h3
    split at h2
    · rename_i t' y r0
      injection h2 with h2
      injection h2 with e1 e2
      subst e1
      subst e2
      cases vs with
      | nil => exact h3.elim
      | cons v vs =>
        simp only [impl1] at h1
        split at h1
        · rename_i z hz
          injection h1 with h1
          injection h1 with e1 e2
          subst e1
          subst e2
          refine ⟨[v], vs, [], rfl, hp _ _ _ ⟨rfl, ?_⟩, h3.2, rfl, by simp, by simp⟩
          refine cdat_rep (m0 := []) hS ReadM.nil (c := .dat t' y) ?_ h3.1
          simp only [cdat] at hz ⊢
          exact hz
        · cases h1
    · cases h2
  intro t
  induction t with
  | int k => intro ics x r r' ks vs h1 h2 h3; exact prim (.int k) (fun _ _ _ h => h) h1 h2 h3
  | flt k => intro ics x r r' ks vs h1 h2 h3; exact prim (.flt k) (fun _ _ _ h => h) h1 h2 h3
  | bool => intro ics x r r' ks vs h1 h2 h3; exact prim .bool (fun _ _ _ h => h) h1 h2 h3
  | str => intro ics x r r' ks vs h1 h2 h3; exact prim .str (fun _ _ _ h => h) h1 h2 h3
  | st t ih => intro ics x r r' ks vs h1 h2 h3; exact ih h1 h2 h3
  | pair a b iha ihb =>
    intro ics x r r' ks vs h1 h2 h3
    simp only [impl] at h1
    simp only [ownKeys] at h2
    split at h1
    · rename_i y r1 e1
      split at h1
      · rename_i z r2 e2
        injection h1 with h1
        injection h1 with k1 k2
        subst k1
        subst k2
        split at h2
        · rename_i ks1 r3 e3
          split at h2
          · rename_i ks2 r4 e4
            injection h2 with h2
            injection h2 with k3 k4
            subst k3
            subst k4
            obtain ⟨v1, v2, l1, rfl, o1, a1, q1, s1, p1⟩ := iha e1 e3 h3
            subst q1
            obtain ⟨v3, v4, l2, rfl, o2, a2, q2, s2, p2⟩ := ihb e2 e4 a1
            refine ⟨v1 ++ v3, v4, l1 ++ l2, by simp, ⟨v1, v3, _, _, rfl, by simp, o1, o2⟩, a2, q2, by simpa using s1.append s2, fun p hp => ?_⟩
            rcases List.mem_append.1 hp with hp | hp
            · exact p1 p hp
            · exact p2 p hp
          · cases h2
        · cases h2
      · cases h1
    · cases h1
  | sl t ih =>
    intro ics x r r' ks vs h1 h2 h3
    simp only [ownKeys] at h2
    split at h2
    · rename_i c r0
      injection h2 with h2
      injection h2 with e1 e2
      subst e1
      subst e2
      cases vs with
      | nil => exact h3.elim
      | cons v vs =>
        simp only [impl, impl1] at h1
        split at h1
        · rename_i z hz
          injection h1 with h1
          injection h1 with e1 e2
          subst e1
          subst e2
          simp only [cdat] at hz
          split at hz
          · rename_i e' xs hl
            split at hz
            · rename_i he
              subst he
              injection hz with hz
              subst hz
              have hx := h3.1.2.2 e' xs hl
              have hch := hm c _ hl
              unfold AllR at hx
              cases hg : g c with
              | none =>
                rw [hg] at hx hch
                obtain ⟨a, ha⟩ := hx
                subst ha
                have : xs = [] := hch
                subst this
                exact ⟨[.slice a 0 0], vs, [], rfl, .inl ⟨rfl, rfl, a, rfl⟩, h3.2, rfl, by simp, by simp⟩
              | some b =>
                rw [hg] at hx hch
                obtain ⟨cap, arr, e1, k1, k2, k3, k4⟩ := hx
                obtain ⟨arr', hb', hel⟩ := hch
                have := k2.eq hb'
                subst this
                subst e1
                by_cases hcap : cap = 0
                · subst hcap
                  have : xs = [] := List.eq_nil_of_length_eq_zero (by omega)
                  subst this
                  exact ⟨[_], vs, [], rfl, .inl ⟨rfl, rfl, _, rfl⟩, h3.2, rfl, by simp, by simp⟩
                · refine ⟨[_], vs, [(c, b)], rfl, .inr ⟨b, cap, arr, rfl, rfl, k1, by omega, k2, k3, k4, fun i hi => ?_⟩, h3.2, rfl, by simp, fun p hp => ?_⟩
                  · obtain ⟨es, q1, q2⟩ := hel i hi
                    exact ⟨es, q1, Rep.keep (fun b hb => ⟨hS b hb, rfl⟩) e' es _ q2⟩
                  · simp at hp
                    subst hp
                    exact ⟨hg, e', xs, hl⟩
            · cases hz
          · cases hz
        · cases h1
    · rename_i r0
      injection h2 with h2
      injection h2 with e1 e2
      subst e1
      subst e2
      cases vs with
      | nil => exact h3.elim
      | cons v vs =>
        simp only [impl, impl1, cdat] at h1
        injection h1 with h1
        injection h1 with e1 e2
        subst e1
        subst e2
        obtain ⟨a, ha⟩ := h3.1
        subst ha
        exact ⟨[.slice a 0 0], vs, [], rfl, .inl ⟨rfl, rfl, a, rfl⟩, h3.2, rfl, by simp, by simp⟩
    · cases h2

/-- Cells whose types cannot be told apart but by their values: a split at one place. -/
theorem append_split {c1 c2 d1 d2 : List Value} (e : c1 ++ c2 = d1 ++ d2) (hl : c1.length = d1.length) : c1 = d1 ∧ c2 = d2 := List.append_inj e hl

/-- Behind the call: the chunks hold what is handed back. -/
def UpdOK (g : GM) (m : Mem) (w' : World) (u : Mem) : Prop :=
  ∀ p ∈ u, ∃ t xs xs', lk p.1 m = some (.seq t xs) ∧ p.2 = .seq t xs' ∧ xs.length = xs'.length ∧
    (match g p.1 with | none => xs' = [] | some b => ∃ arr, blk w' b arr ∧ ElsR (fun _ => True) w' t xs' arr ∧ t.flat = true)

theorem upd_rel (hm : ChAll g m S w) {w' : World} (hsz : ∀ b arr, blk w b arr → ∃ arr', blk w' b arr' ∧ arr'.size = arr.size) : ∀ (t : Ty) {ics : List ICell} {x x' : t.D} {r r' r'' : List ICell} {ks : List Nat} {u : Mem} {vs : List Value} {F : List Nat} {v1 v2 : List Value},
    t.flat1 = true → impl m t ics = some (x, r) → ownKeys m t ics = some (ks, r') → ownUpd t ics x' = some (u, r'') → All2 (CR g m S w) ics vs → vs = v1 ++ v2 → OwnRep S2 w' t v1 x' F →
    u.map Prod.fst = ks ∧ UpdOK g m w' u ∧ r'' = r := by
  have prim : ∀ (t : Ty) {ics : List ICell} {x : t.D} {r r' r'' : List ICell} {ks : List Nat} {u : Mem},
      impl1 m t ics = some (x, r) → (match ics with | .dat _ _ :: r => some (([] : List Nat), r) | _ => none) = some (ks, r') → (match ics with | .dat _ _ :: r => some (([] : Mem), r) | _ => none) = some (u, r'') →
      u.map Prod.fst = ks ∧ UpdOK g m w' u ∧ r'' = r := by
    intro t ics x r r' r'' ks u h1 h2 h3
    split at h2
    · injection h2 with h2
      injection h2 with e1 e2
      injection h3 with h3
      injection h3 with e3 e4
      simp only [impl1] at h1
      split at h1
      · injection h1 with h1
        injection h1 with e5 e6
        subst e1
        subst e3
        exact ⟨rfl, (fun p hp => by simp at hp), by rw [← e4, ← e6]⟩
      · cases h1
    · cases h2
  intro t
  induction t with
  | int k => intro ics x x' r r' r'' ks u vs F v1 v2 hf h1 h2 h3 h4 h5 h6; exact prim (.int k) h1 h2 h3
  | flt k => intro ics x x' r r' r'' ks u vs F v1 v2 hf h1 h2 h3 h4 h5 h6; exact prim (.flt k) h1 h2 h3
  | bool => intro ics x x' r r' r'' ks u vs F v1 v2 hf h1 h2 h3 h4 h5 h6; exact prim .bool h1 h2 h3
  | str => intro ics x x' r r' r'' ks u vs F v1 v2 hf h1 h2 h3 h4 h5 h6; exact prim .str h1 h2 h3
  | st t ih => intro ics x x' r r' r'' ks u vs F v1 v2 hf h1 h2 h3 h4 h5 h6; exact ih hf h1 h2 h3 h4 h5 h6
  | pair a b iha ihb =>
    intro ics x x' r r' r'' ks u vs F v1 v2 hf h1 h2 h3 h4 h5 h6
    simp only [Ty.flat1, Bool.and_eq_true] at hf
    simp only [impl] at h1
    simp only [ownKeys] at h2
    simp only [ownUpd] at h3
    split at h1
    · rename_i y r1 e1
      split at h1
      · rename_i z r2 e2
        injection h1 with h1
        injection h1 with k1 k2
        subst k1
        subst k2
        split at h2
        · rename_i ks1 r3 e3
          split at h2
          · rename_i ks2 r4 e4
            injection h2 with h2
            injection h2 with k3 k4
            subst k3
            subst k4
            split at h3
            · rename_i u1 r5 e5
              split at h3
              · rename_i u2 r6 e6
                injection h3 with h3
                injection h3 with k5 k6
                subst k5
                subst k6
                obtain ⟨c1, c2, F1, F2, rfl, rfl, o1, o2⟩ := h6
                obtain ⟨w1, w2, l1, rfl, p1, a1, q1, s1, _⟩ := own_rel (S2 := S) hm (fun _ h => h) a e1 e3 h4
                subst q1
                have hl1 := OwnRep.len a p1
                have hl2 := OwnRep.len a o1
                rw [List.append_assoc] at h5
                obtain ⟨rfl, rfl⟩ := append_split h5 (by omega)
                obtain ⟨g1, g2, g3⟩ := iha (v2 := c2 ++ v2) hf.1 e1 e3 e5 h4 rfl o1
                subst g3
                obtain ⟨g4, g5, g6⟩ := ihb (v2 := v2) hf.2 e2 e4 e6 a1 rfl o2
                refine ⟨by simp [g1, g4], fun p hp => ?_, g6⟩
                rcases List.mem_append.1 hp with hp | hp
                · exact g2 p hp
                · exact g5 p hp
              · cases h3
            · cases h3
          · cases h2
        · cases h2
      · cases h1
    · cases h1
  | sl t ih =>
    intro ics x x' r r' r'' ks u vs F v1 v2 hf h1 h2 h3 h4 h5 h6
    simp only [ownKeys] at h2
    simp only [ownUpd] at h3
    split at h2
    · rename_i c r0
      injection h2 with h2
      injection h2 with e1 e2
      injection h3 with h3
      injection h3 with e3 e4
      subst e1
      subst e2
      subst e3
      subst e4
      cases vs with
      | nil => exact h4.elim
      | cons v vs =>
        simp only [impl, impl1] at h1
        split at h1
        · rename_i z hz
          injection h1 with h1
          injection h1 with e1 e2
          subst e1
          subst e2
          simp only [cdat] at hz
          split at hz
          · rename_i e' xs hl
            split at hz
            · rename_i he
              subst he
              injection hz with hz
              subst hz
              refine ⟨rfl, fun p hp => ?_, rfl⟩
              simp at hp
              subst hp
              have hx := h4.1.2.2 e' xs hl
              unfold AllR at hx
              have hlen6 := OwnRep.len (.sl e') h6
              have hv1 : v1 = [v] := by
                cases v1 with
                | nil => simp [Ty.size] at hlen6
                | cons q qs =>
                  have : qs = [] := List.eq_nil_of_length_eq_zero (by simpa [Ty.size] using hlen6)
                  subst this
                  simp at h5
                  rw [h5.1]
              subst hv1
              cases hg : g c with
              | none =>
                rw [hg] at hx
                obtain ⟨a, ha⟩ := hx
                have hch := hm c _ hl
                rw [hg] at hch
                have hxs : xs = [] := hch
                subst ha
                rcases h6 with ⟨_, hx', _⟩ | ⟨b, cap, arr, _, e6, _, hpos, _⟩
                · exact ⟨e', xs, x', hl, rfl, by rw [hxs, hx'], hx'⟩
                · simp at e6; omega
              | some b =>
                rw [hg] at hx
                obtain ⟨cap, arr, e1, k1, k2, k3, k4⟩ := hx
                subst e1
                rcases h6 with ⟨_, hx', a, e6⟩ | ⟨b', cap', arr', _, e6, q1, q2, q3, q4, q5, q6⟩
                · simp at e6
                  obtain ⟨arr', hb', _⟩ := hsz b arr k2
                  refine ⟨e', xs, x', hl, rfl, by rw [hx', e6.2.1], ?_⟩
                  exact ⟨arr', hb', by rw [hx']; exact fun i hi => by simp at hi, hf⟩
                · simp at e6
                  obtain ⟨e7, e8, e9⟩ := e6
                  subst e7
                  exact ⟨e', xs, x', hl, rfl, e8, arr', q3, q6.flat hf, hf⟩
            · cases hz
          · cases hz
        · cases h1
    · rename_i r0
      injection h2 with h2
      injection h2 with e1 e2
      injection h3 with h3
      injection h3 with e3 e4
      simp only [impl, impl1, cdat] at h1
      injection h1 with h1
      injection h1 with e5 e6
      subst e1
      subst e3
      exact ⟨rfl, (fun p hp => by simp at hp), by rw [← e4, ← e6]⟩
    · cases h2

end
end Go.Ide
