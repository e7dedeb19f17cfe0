/-
  Cells read as data, and data as cells.
-/
import Derived.Test.YthkikckjkhnmlaaIdeD
namespace Go.Ide

section
variable {g : GM} {m m0 : Mem} {S S2 : Nat → Prop} {w : World}

/-- The chunks of m0 are chunks of m, and may be read. -/
def ReadM (g : GM) (m m0 : Mem) (S2 : Nat → Prop) (w : World) : Prop :=
  ∀ k t xs, lk k m0 = some (.seq t xs) → lk k m = some (.seq t xs) ∧
    (match g k with | none => xs = [] | some b => S2 b ∧ ∃ arr, blk w b arr ∧ ElsR S2 w t xs arr)

theorem ReadM.nil : ReadM g m [] S2 w := fun k t xs h => by simp [lk_nil] at h

theorem Rep.of_slice {t : Ty} {xs : List t.D} {b o cap : Nat} {arr : Array Value} (hS : S2 b) (hb : blk w b arr) (hc : xs.length ≤ cap)
    (h : ∀ i (hi : i < xs.length), ∃ es : List Value, (∀ j v, es[j]? = some v → arr[o + (i * t.size + j)]? = some v) ∧ Rep S2 w t es xs[i]) :
    Rep S2 w (.sl t) [.slice (some ⟨b, o, none⟩) xs.length cap] xs := by
  refine ⟨some ⟨b, o, none⟩, cap, rfl, hc, fun i hi => ?_⟩
  obtain ⟨es, h1, h2⟩ := h i hi
  refine ⟨⟨b, o, none⟩, es, rfl, hS, fun j v hv => ?_, h2⟩
  rw [add_none, hb.cell]
  exact h1 j v hv

theorem cdat_rep (hS : ∀ b, S b → S2 b) (hm : ReadM g m m0 S2 w) {t : Ty} {c : ICell} {x : t.D} {v : Value} (h : cdat m0 t c = some x) (hr : CR g m S w c v) : Rep S2 w t [v] x := by
  cases c with
  | dat t' y =>
    simp only [cdat] at h
    split at h
    · rename_i e; subst e
      injection h with h; subst h
      exact Rep.keep (fun b hb => ⟨hS b hb, rfl⟩) t' [v] y hr
    · cases h
  | all c =>
    simp only [cdat] at h
    split at h
    · rename_i e
      split at h
      · rename_i e' xs hl
        split at h
        · rename_i he; subst he
          injection h with h; subst h
          obtain ⟨hl', hc⟩ := hm c e' xs hl
          have hx := hr.2.2 e' xs hl'
          unfold AllR at hx
          cases hg : g c with
          | none =>
            rw [hg] at hx hc
            obtain ⟨a, ha⟩ := hx
            subst ha
            have hn : xs = [] := hc
            subst hn
            exact ⟨a, 0, rfl, Nat.le_refl _, fun i hi => by simp [castD] at hi⟩
          | some b =>
            rw [hg] at hx hc
            obtain ⟨cap, arr, e1, h1, h2, h3, h4⟩ := hx
            obtain ⟨hSb, arr', hb', he'⟩ := hc
            subst e1
            refine Rep.of_slice (xs := xs) hSb hb' h1 fun i hi => ?_
            obtain ⟨es, k1, k2⟩ := he' i hi
            exact ⟨es, fun j v hv => by rw [Nat.zero_add]; exact k1 j v hv, k2⟩
        · cases h
      · cases h
    · cases h
  | ref c off len =>
    simp only [cdat] at h
    split at h
    · rename_i e
      split at h
      · rename_i e' xs hl
        split at h
        · rename_i he; subst he
          injection h with h; subst h
          obtain ⟨hl', hc⟩ := hm c e' xs hl
          obtain ⟨hle, hx⟩ := hr.2.2 e' xs hl'
          have hlen : ((xs.drop off).take len).length = len := by simp; omega
          rcases hx with ⟨h0, _, a, ha⟩ | ⟨b, cap, arr, hg, e1, h1, h2, h3, h4⟩
          · subst ha
            subst h0
            exact ⟨a, 0, by simp [castD], by simp [castD], fun i hi => by simp [castD] at hi⟩
          · rw [hg] at hc
            obtain ⟨hSb, arr', hb', he'⟩ := hc
            subst e1
            have := Rep.of_slice (S2 := S2) (w := w) (t := e') (xs := (xs.drop off).take len) (o := off * e'.size) (cap := cap) hSb hb' (by omega) fun i hi => by
              have hi' : off + i < xs.length := by rw [hlen] at hi; omega
              obtain ⟨es, k1, k2⟩ := he' (off + i) hi'
              refine ⟨es, fun j v hv => ?_, ?_⟩
              · have := k1 j v hv
                rw [Nat.add_mul] at this
                rw [← Nat.add_assoc]; exact this
              · simpa using k2
            rw [hlen] at this
            exact this
        · cases h
      · cases h
    · cases h
  | nilS =>
    simp only [cdat] at h
    split at h
    · injection h with h; subst h
      obtain ⟨a, ha⟩ := hr
      subst ha
      exact ⟨a, 0, rfl, Nat.le_refl _, fun i hi => by simp at hi⟩
    · cases h
  | ptr c off => simp [cdat] at h
  | elp c i sz => simp [cdat] at h
  | ip t x off => simp [cdat] at h
  | fn f => simp [cdat] at h
  | junk => simp [cdat] at h
  | bad => simp [cdat] at h

theorem impl_one (hS : ∀ b, S b → S2 b) (hm : ReadM g m m0 S2 w) {t : Ty} {cs : List ICell} {x : t.D} {r : List ICell} {vs : List Value}
    (h : impl1 m0 t cs = some (x, r)) (hr : All2 (CR g m S w) cs vs) :
    ∃ v1 v2, vs = v1 ++ v2 ∧ Rep S2 w t v1 x ∧ All2 (CR g m S w) r v2 := by
  cases cs with
  | nil => simp [impl1] at h
  | cons c cs =>
    cases vs with
    | nil => exact hr.elim
    | cons v vs =>
      simp only [impl1] at h
      split at h
      · rename_i y hy
        injection h with h
        injection h with h1 h2
        subst h1
        subst h2
        exact ⟨[v], vs, rfl, cdat_rep hS hm hy hr.1, hr.2⟩
      · cases h

theorem impl_rep (hS : ∀ b, S b → S2 b) (hm : ReadM g m m0 S2 w) : ∀ (t : Ty) {cs : List ICell} {x : t.D} {r : List ICell} {vs : List Value}, impl m0 t cs = some (x, r) → All2 (CR g m S w) cs vs →
    ∃ v1 v2, vs = v1 ++ v2 ∧ Rep S2 w t v1 x ∧ All2 (CR g m S w) r v2
  | .int k, cs, x, r, vs, h, hr => impl_one hS hm (t := .int k) (cs := cs) h hr
  | .flt k, cs, x, r, vs, h, hr => impl_one hS hm (t := .flt k) (cs := cs) h hr
  | .bool, cs, x, r, vs, h, hr => impl_one hS hm (t := .bool) (cs := cs) h hr
  | .str, cs, x, r, vs, h, hr => impl_one hS hm (t := .str) (cs := cs) h hr
  | .sl t, cs, x, r, vs, h, hr => impl_one hS hm (t := .sl t) (cs := cs) h hr
  | .st t, cs, x, r, vs, h, hr => impl_rep hS hm t h hr
  | .pair a b, cs, x, r, vs, h, hr => by
    simp only [impl] at h
    split at h
    · rename_i y r1 h1
      split at h
      · rename_i z r2 h2
        injection h with h
        injection h with e1 e2
        subst e1
        subst e2
        obtain ⟨v1, v2, rfl, k1, k2⟩ := impl_rep hS hm a h1 hr
        obtain ⟨v3, v4, rfl, k3, k4⟩ := impl_rep hS hm b h2 k2
        exact ⟨v1 ++ v3, v4, by simp, ⟨v1, v3, rfl, k1, k3⟩, k4⟩
      · cases h
    · cases h

/-- A value whose cells are these. -/
def ValOf (t : Ty) (cs : List Value) (v : Value) : Prop := if t.isSt then v = .agg cs.toArray else cs = [v]

theorem vdat_rep (hS : ∀ b, S b → S2 b) (hm : ReadM g m m0 S2 w) {t : Ty} {v : IVal} {x : t.D} {val : Value} (h : vdat m0 t v = some x) (hr : VR g m S w v val) :
    ∃ cs, ValOf t cs val ∧ Rep S2 w t cs x := by
  unfold vdat at h
  split at h
  · rename_i c hst
    split at h
    · rename_i y he
      injection h with h; subst h
      obtain ⟨v1, v2, e, h1, h2⟩ := impl_rep (vs := [val]) hS hm t he ⟨hr, trivial⟩
      have : v2 = [] := by cases v2 with | nil => rfl | cons => exact h2.elim
      subst this
      simp at e
      subst e
      exact ⟨[val], by simp [ValOf, hst], h1⟩
    · cases h
  · rename_i cs hst
    split at h
    · rename_i y he
      injection h with h; subst h
      obtain ⟨vs, e, hvs⟩ := hr
      obtain ⟨v1, v2, e2, h1, h2⟩ := impl_rep hS hm t he hvs
      have : v2 = [] := by cases v2 with | nil => rfl | cons => exact h2.elim
      subst this
      simp at e2
      subst e2
      exact ⟨vs, by simp [ValOf, hst, e], h1⟩
    · cases h
  · cases h

theorem expl_rel : ∀ (t : Ty) {cs : List Value} {x : t.D}, Rep S w t cs x → All2 (CR g m S w) (expl t x) cs
  | .int _, _, _, h => by subst h; exact ⟨rfl, trivial⟩
  | .flt _, _, _, ⟨b, e, h⟩ => by subst e; exact ⟨⟨b, rfl, h⟩, trivial⟩
  | .bool, _, _, h => by subst h; exact ⟨rfl, trivial⟩
  | .str, _, _, h => by subst h; exact ⟨rfl, trivial⟩
  | .sl t, _, _, ⟨a, cap, e, h⟩ => by subst e; exact ⟨⟨a, cap, rfl, h⟩, trivial⟩
  | .pair a b, _, _, ⟨c1, c2, e, h1, h2⟩ => by subst e; exact (expl_rel a h1).append (expl_rel b h2)
  | .st t, _, _, h => expl_rel t (cs := _) h

theorem cst_CR (v : Value) : CR g m S w (cst v) v := by
  unfold cst
  split
  · exact rfl
  · exact rfl
  · exact ⟨_, rfl, rfl⟩
  · rename_i s; simp [CR, Rep]
  · exact ⟨none, rfl⟩
  · trivial
  · trivial
  · rename_i h1 h2 h3 h4 h5 h6 h7
    cases v <;> first
      | rfl
      | exact absurd rfl (h6 _)
      | exact absurd rfl (h7 _)

theorem cst_All : ∀ (l : List Value), All2 (CR g m S w) (l.map cst) l
  | [] => trivial
  | v :: l => ⟨cst_CR v, cst_All l⟩

theorem cstV_VR (v : Value) : VR g m S w (cstV v) v := by
  unfold cstV
  split
  · rename_i cs; exact ⟨cs.toList, by simp, cst_All _⟩
  · trivial
  · exact cst_CR v

theorem ev_VR {cx : Cx} {st : St} {a : Act} (h : Sim cx g st a w) {x : Operand} {v : IVal} (he : ev st.fr x = some v) : VR g st.mem (cx.safe g st.mem w) w v (a.eval x) := by
  cases x with
  | tmp t => exact h.fr t v he
  | const c => simp only [ev] at he; injection he with he; subst he; exact cstV_VR c
  | func f => simp only [ev] at he; injection he with he; subst he; exact rfl
  | global g => simp [ev] at he

end
end Go.Ide
