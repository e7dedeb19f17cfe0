import Derived.Test.YtjekgiabgglokaaLibA
import Derived.Laws.FloatArith
import Derived.Lib.ConvBytes
import Derived.Laws.BytesString
set_option linter.unusedVariables false
set_option linter.unusedSimpArgs false
set_option linter.unusedSectionVars false

/-
 Calls: arguments, results, what has become of memory.
-/
namespace Go.Ide

section
variable {g : GM} {m : Mem} {S S2 : Nat → Prop} {w : World}

theorem OwnSA.len {t : Ty} {cs : List Value} {xs : List t.D} {A : List (List Nat → Option Nat)} (h : OwnSA S w t cs xs A) : cs.length = 1 := by
 rcases h with ⟨_, _, a, e⟩ | ⟨v, γ, _, e, _⟩ <;> subst e <;> rfl

theorem OwnA.len : ∀ (t : Ty) {cs : List Value} {x : t.D} {A : List (List Nat → Option Nat)}, OwnA S w t cs x A → cs.length = t.size
 | .int _, _, _, _, h => Rep.len _ _ _ h.2
 | .flt _, _, _, _, h => Rep.len _ _ _ h.2
 | .bool, _, _, _, h => Rep.len _ _ _ h.2
 | .str, _, _, _, h => Rep.len _ _ _ h.2
 | .pair a b, _, _, _, ⟨c1, c2, A1, A2, e, _, h1, h2⟩ => by subst e; simp [Ty.size, OwnA.len a h1, OwnA.len b h2]
 | .st t, _, _, _, h => OwnA.len t (cs := _) h
 | .sl t, _, _, _, h => OwnSA.len h
 | .bx t, _, _, _, ⟨_, _, _, _, e, _⟩ => by subst e; rfl
 | .own t, _, _, _, h => OwnSA.len h

theorem OwnSA.alen {t : Ty} {cs : List Value} {xs : List t.D} {A : List (List Nat → Option Nat)} (h : OwnSA S w t cs xs A) : A.length = 1 := by
 rcases h with ⟨e, _⟩ | ⟨v, γ, e, _⟩ <;> subst e <;> rfl

def Ty.slots : Ty → Nat
 | .pair a b => a.slots + b.slots
 | .st t => t.slots
 | .sl _ => 1
 | .bx _ => 1
 | .own _ => 1
 | _ => 0

theorem OwnA.alen : ∀ (t : Ty) {cs : List Value} {x : t.D} {A : List (List Nat → Option Nat)}, OwnA S w t cs x A → A.length = t.slots
 | .int _, _, _, _, h => by rw [h.1]; rfl
 | .flt _, _, _, _, h => by rw [h.1]; rfl
 | .bool, _, _, _, h => by rw [h.1]; rfl
 | .str, _, _, _, h => by rw [h.1]; rfl
 | .pair a b, _, _, _, ⟨c1, c2, A1, A2, _, e, h1, h2⟩ => by subst e; simp [Ty.slots, OwnA.alen a h1, OwnA.alen b h2]
 | .st t, _, _, _, h => OwnA.alen t (cs := _) h
 | .sl t, _, _, _, h => OwnSA.alen h
 | .bx t, _, _, _, ⟨_, _, _, e, _⟩ => by subst e; rfl
 | .own t, _, _, _, h => OwnSA.alen h

theorem Rep.flat {w' : World} : ∀ (t : Ty) {cs : List Value} {x : t.D}, t.flat = true → Rep S w t cs x → Rep S2 w' t cs x
 | .int _, _, _, _, h => h
 | .flt _, _, _, _, h => h
 | .bool, _, _, _, h => h
 | .str, _, _, _, h => h
 | .sl _, _, _, hf, _ => by cases hf
 | .bx _, _, _, hf, _ => by cases hf
 | .own _, _, _, hf, _ => by cases hf
 | .pair a b, _, _, hf, ⟨c1, c2, e, h1, h2⟩ => by
  simp only [Ty.flat, Bool.and_eq_true] at hf
  exact ⟨c1, c2, e, Rep.flat a hf.1 h1, Rep.flat b hf.2 h2⟩
 | .st t, _, _, hf, h => Rep.flat t (cs := _) hf h

theorem ElsR.flat {w' : World} {t : Ty} {xs : List t.D} {arr : Array Value} (hf : t.flat = true) (h : ElsR S w t xs arr) : ElsR S2 w' t xs arr :=
 fun i hi => let ⟨es, h1, h2⟩ := h i hi; ⟨es, h1, Rep.flat t hf h2⟩

theorem ElR.flatO : ∀ (t : Ty) {γ : List Nat → Option Nat} {o : Nat} {cs : List Value} {x : t.D}, t.flatO = true → ElR S w t γ o cs x → ElR S2 w t γ o cs x
 | .own t, γ, o, cs, xs, hf, ⟨v, e, ha, hr⟩ => by
  refine ⟨v, e, ha, ?_⟩
  cases hg : γ [o] with
  | none => rw [hg] at hr; exact hr
  | some b =>
   rw [hg] at hr
   obtain ⟨arr, hb, hi⟩ := hr
   exact ⟨arr, hb, fun i hl => let ⟨es, h1, h2⟩ := hi i hl; ⟨es, h1, ElR.flatO t hf h2⟩⟩
 | .pair a b, γ, o, cs, x, hf, ⟨c1, c2, e, h1, h2⟩ => by
  simp only [Ty.flatO, Bool.and_eq_true] at hf
  exact ⟨c1, c2, e, ElR.flatO a hf.1 h1, ElR.flatO b hf.2 h2⟩
 | .st t, γ, o, cs, x, hf, hr => ElR.flatO t (o := o) (cs := cs) (x := x) hf hr
 | .int k, _, _, cs, x, _, hr => hr
 | .flt k, _, _, cs, x, _, hr => hr
 | .bool, _, _, cs, x, _, hr => hr
 | .str, _, _, cs, x, _, hr => hr
 | .sl t, _, _, cs, x, hf, hr => by cases hf
 | .bx t, _, _, cs, x, hf, hr => by cases hf

theorem ElsO.flatO {γ : List Nat → Option Nat} {t : Ty} {xs : List t.D} {arr : Array Value} (hf : t.flatO = true) (h : ElsO S w γ t xs arr) : ElsO S2 w γ t xs arr :=
 fun i hi => let ⟨es, h1, h2⟩ := h i hi; ⟨es, h1, ElR.flatO t hf h2⟩

theorem slotD_top : ∀ (t : Ty) (x : t.D) (o : Nat), t.top = true → slotD t x o = none
 | .int _, _, _, _ => rfl
 | .flt _, _, _, _ => rfl
 | .bool, _, _, _ => rfl
 | .str, _, _, _ => rfl
 | .sl _, _, _, _ => rfl
 | .bx _, _, _, _ => rfl
 | .own _, _, _, h => by cases h
 | .pair a b, x, o, h => by
  simp only [Ty.top, Bool.and_eq_true] at h
  simp only [slotD]
  cases Nat.blt o a.size with
  | true => exact slotD_top a _ _ h.1
  | false => exact slotD_top b _ _ h.2
 | .st t, x, o, h => slotD_top t x o h

theorem ShapeEq.top {t : Ty} (h : t.top = true) {xs xs' : List t.D} (hl : xs.length = xs'.length) : ShapeEq t xs xs' :=
 ⟨hl, fun i o e ys' hs => by rw [slotD_top t _ _ h] at hs; cases hs⟩

structure MemI (g : GM) (m : Mem) (w : World) : Prop where
 inj : ∀ k k' p p' ch ch' b, lk k m = some ch → ch.owns p → lk k' m = some ch' → ch'.owns p' → g.f k p = some b → g.f k' p' = some b → k = k' ∧ p = p'
 lt : ∀ k p ch b, lk k m = some ch → ch.owns p → g.f k p = some b → b < w.heap.size

theorem Sim.memI {cx : Cx} {st : St} {a : Act} (h : Sim cx g st a w) : MemI g st.mem w := ⟨h.injp, h.lt⟩

theorem InjA.nil : InjA [] := ⟨List.Pairwise.nil, fun γ h => by simp at h⟩

theorem BlkA.nil : BlkA [] [] := fun b => by simp

theorem blkA_exists {n : Nat} {A : List (List Nat → Option Nat)} (h : ∀ γ, γ ∈ A → ∀ p b, γ p = some b → b < n) : ∃ F, BlkA A F := by
 classical
 refine ⟨(List.range n).filter fun b => decide (∃ γ, γ ∈ A ∧ ∃ p, γ p = some b), fun b => ?_⟩
 rw [List.mem_filter]
 simp only [List.mem_range, decide_eq_true_eq]
 exact ⟨fun h => h.2, fun hp => ⟨let ⟨γ, hγ, p, e⟩ := hp; h γ hγ p b e, hp⟩⟩

def gof (g : GM) : Option Nat → List Nat → Option Nat
 | some k => g.f k
 | none => fun _ => none

def KeysA (g : GM) (m : Mem) (ks : List Nat) (A : List (List Nat → Option Nat)) : Prop :=
 ∃ l : List (Option Nat), A = l.map (gof g) ∧ (l.filterMap id).Sublist ks ∧ ∀ k, some k ∈ l → ∃ t xs, lk k m = some (.seq t xs)

theorem KeysA.nil {ks : List Nat} : KeysA g m ks [] := ⟨[], rfl, List.nil_sublist _, fun k h => by simp at h⟩

theorem KeysA.app {ks1 ks2 : List Nat} {A1 A2 : List (List Nat → Option Nat)} (h1 : KeysA g m ks1 A1) (h2 : KeysA g m ks2 A2) : KeysA g m (ks1 ++ ks2) (A1 ++ A2) := by
 obtain ⟨l1, e1, s1, p1⟩ := h1
 obtain ⟨l2, e2, s2, p2⟩ := h2
 refine ⟨l1 ++ l2, by rw [e1, e2, List.map_append], by rw [List.filterMap_append]; exact s1.append s2, fun k hk => ?_⟩
 rcases List.mem_append.1 hk with hk | hk
 ·exact p1 k hk
 ·exact p2 k hk

theorem KeysA.inj (hI : MemI g m w) {ks : List Nat} {A : List (List Nat → Option Nat)} (h : KeysA g m ks A) (hn : ks.Nodup) : InjA A := by
 obtain ⟨l, e, hs, hp⟩ := h
 subst e
 have hn := hs.nodup hn
 constructor
 ·rw [List.pairwise_map]
  have := List.pairwise_filterMap.1 hn
  refine this.imp_of_mem fun {o o'} ho ho' hr p q b h1 h2 => ?_
  cases o with
  | none => cases h1
  | some k =>
   cases o' with
   | none => cases h2
   | some k' =>
    obtain ⟨t, xs, l1⟩ := hp k ho
    obtain ⟨t', xs', l2⟩ := hp k' ho'
    exact hr k rfl k' rfl (hI.inj k k' p q _ _ b l1 trivial l2 trivial h1 h2).1
 ·intro γ hγ p q b h1 h2
  obtain ⟨o, ho, rfl⟩ := List.mem_map.1 hγ
  cases o with
  | none => cases h1
  | some k =>
   obtain ⟨t, xs, l1⟩ := hp k ho
   exact (hI.inj k k p q _ _ b l1 trivial l1 trivial h1 h2).2

theorem KeysA.blk {ks : List Nat} {A : List (List Nat → Option Nat)} (h : KeysA g m ks A) {γ : List Nat → Option Nat} (hγ : γ ∈ A) {p : List Nat} {b : Nat} (hb : γ p = some b) : ∃ k, k ∈ ks ∧ ∃ p t xs, g.f k p = some b ∧ lk k m = some (.seq t xs) := by
 obtain ⟨l, e, hs, hp⟩ := h
 subst e
 obtain ⟨o, ho, rfl⟩ := List.mem_map.1 hγ
 cases o with
 | none => cases hb
 | some k =>
  obtain ⟨t, xs, l1⟩ := hp k ho
  exact ⟨k, hs.subset (List.mem_filterMap.2 ⟨some k, ho, rfl⟩), p, t, xs, hb, l1⟩

def UpdOK (g : GM) (m : Mem) (SU : Nat → Prop) (w' : World) (u : Mem) : Prop :=
 ∀ p ∈ u, ∃ t xs, lk p.1 m = some (.seq t xs) ∧ (p.2 = .gone ∨ ∃ xs', p.2 = .seq t xs' ∧ ShapeEq t xs xs' ∧
  (match g.f p.1 [] with | none => xs' = [] | some b => ∃ arr, blk w' b arr ∧ ElsO SU w' (g.f p.1) t xs' arr))

theorem UpdOK.nil {SU : Nat → Prop} {w' : World} : UpdOK g m SU w' [] := fun p hp => by simp at hp

theorem UpdOK.app {SU : Nat → Prop} {w' : World} {u1 u2 : Mem} (h1 : UpdOK g m SU w' u1) (h2 : UpdOK g m SU w' u2) : UpdOK g m SU w' (u1 ++ u2) := fun p hp => by
 rcases List.mem_append.1 hp with hp | hp
 ·exact h1 p hp
 ·exact h2 p hp

theorem own_slot (hm : ChAll g m S w) (hS : ∀ b, S b → S2 b) {c : Nat} {t : Ty} {xs : List t.D} (hl : lk c m = some (.seq t xs)) {v : Value} (hv : CR g m S w (.all c) v) :
  ∃ A, OwnSA S2 w t [v] xs A ∧ KeysA g m [c] A ∧ ∀ (w' : World) (SO SU : Nat → Prop) (xs' : List t.D), (∀ b arr, blk w b arr → ∃ arr', blk w' b arr' ∧ arr'.size = arr.size) → (t.flatO = true ∨ ∀ b, SO b → SU b) → OwnSA SO w' t [v] xs' A → ShapeEq t xs xs' → UpdOK g m SU w' [(c, .seq t xs')] := by
 have hx := hv.2.2 t xs (.inl hl)
 have hch := hm c _ hl
 unfold AllR at hx
 unfold ChR at hch
 have hemp : ∀ xs', xs = [] → ShapeEq t xs xs' → xs' = [] := fun xs' h h' => List.eq_nil_of_length_eq_zero (by rw [← h'.1, h]; rfl)
 cases hg : g.f c [] with
 | none =>
  rw [show g c = none from hg] at hx
  rw [hg] at hch
  obtain ⟨a, ha⟩ := hx
  have hch : xs = [] := hch
  refine ⟨[fun _ => none], .inl ⟨rfl, hch, a, by rw [ha]⟩, ⟨[none], rfl, by simp, by simp⟩, fun w' SO SU xs' hsz hf ho hsh p hp => ?_⟩
  simp at hp
  subst hp
  refine ⟨t, xs, hl, .inr ⟨xs', rfl, hsh, ?_⟩⟩
  simp only [hg]
  exact hemp xs' hch hsh
 | some b =>
  rw [show g c = some b from hg] at hx
  rw [hg] at hch
  obtain ⟨cap, arr, e1, k1, k2, k3, k4⟩ := hx
  obtain ⟨arr', hb', hel⟩ := hch
  have := k2.eq hb'
  subst this
  subst e1
  by_cases hcap : cap = 0
  ·subst hcap
   have hxs : xs = [] := List.eq_nil_of_length_eq_zero (by omega)
   refine ⟨[fun _ => none], .inl ⟨rfl, hxs, _, by rw [hxs]; rfl⟩, ⟨[none], rfl, by simp, by simp⟩, fun w' SO SU xs' hsz hf ho hsh p hp => ?_⟩
   simp at hp
   subst hp
   have hx' := hemp xs' hxs hsh
   refine ⟨t, xs, hl, .inr ⟨xs', rfl, hsh, ?_⟩⟩
   simp only [hg]
   obtain ⟨arr', q1, _⟩ := hsz b arr k2
   exact ⟨arr', q1, by rw [hx']; exact fun i hi => by simp at hi⟩
  ·refine ⟨[g.f c], .inr ⟨_, g.f c, rfl, rfl, b, cap, arr, hg, rfl, k1, by omega, k2, k3, k4, hel.keep (fun b hb => ⟨hS b hb, rfl⟩) (fun _ _ _ => rfl)⟩, ⟨[some c], rfl, by simp, fun k hk => by simp at hk; subst hk; exact ⟨t, xs, hl⟩⟩, fun w' SO SU xs' hsz hf ho hsh p hp => ?_⟩
   simp at hp
   subst hp
   refine ⟨t, xs, hl, .inr ⟨xs', rfl, hsh, ?_⟩⟩
   rcases ho with ⟨e, _⟩ | ⟨v', γ, e, e2, b2, cap2, arr2, h0, _, _, _, q3, _, _, q6⟩
   ·injection e with e
    rw [e] at hg
    cases hg
   ·injection e with e
    subst e
    simp only [h0]
    refine ⟨arr2, q3, ?_⟩
    rcases hf with hf | hf
    ·exact q6.flatO hf
    ·exact q6.keep (fun b hb => ⟨hf b hb, rfl⟩) fun _ _ _ => rfl

theorem own_box (hm : ChAll g m S w) (hS : ∀ b, S b → S2 b) {c sz : Nat} {t : Ty} {xs : List t.D} (hl : lk c m = some (.seq t xs)) {v : Value} (hv : CR g m S w (.elp c 0 sz 0) v) :
  ∃ A, OwnBx S2 w t [v] xs A ∧ KeysA g m [c] A ∧ ∀ (w' : World) (SO SU : Nat → Prop) (xs' : List t.D), (t.flatO = true ∨ ∀ b, SO b → SU b) → OwnBx SO w' t [v] xs' A → ShapeEq t xs xs' → UpdOK g m SU w' [(c, .seq t xs')] := by
 obtain ⟨_, b, hg, ev⟩ := hv
 have hch := hm c _ hl
 unfold ChR at hch
 have hg : g.f c [] = some b := hg
 rw [hg] at hch
 obtain ⟨arr, hb, hel⟩ := hch
 refine ⟨[g.f c], ⟨g.f c, b, arr, rfl, by rw [ev]; simp, hg, hb, hel.keep (fun b hb => ⟨hS b hb, rfl⟩) fun _ _ _ => rfl⟩, ⟨[some c], rfl, by simp, fun k hk => by simp at hk; subst hk; exact ⟨t, xs, hl⟩⟩, fun w' SO SU xs' hf ho hsh p hp => ?_⟩
 simp at hp
 subst hp
 refine ⟨t, xs, hl, .inr ⟨xs', rfl, hsh, ?_⟩⟩
 obtain ⟨γ, b2, arr2, e1, _, h0, q3, q6⟩ := ho
 injection e1 with e1
 subst e1
 simp only [h0]
 refine ⟨arr2, q3, ?_⟩
 rcases hf with hf | hf
 ·exact q6.flatO hf
 ·exact q6.keep (fun b hb => ⟨hf b hb, rfl⟩) fun _ _ _ => rfl

theorem own_rel (hm : ChAll g m S w) (hS : ∀ b, S b → S2 b) : ∀ (t : Ty) {ics : List ICell} {x : t.D} {r r' : List ICell} {ks : List Nat} {vs : List Value},
  impl m t ics = some (x, r) → ownKeys m t ics = some (ks, r') → All2 (CR g m S w) ics vs →
  ∃ v1 v2 A, vs = v1 ++ v2 ∧ OwnA S2 w t v1 x A ∧ All2 (CR g m S w) r v2 ∧ r' = r ∧ KeysA g m ks A ∧ (∀ k ∈ ks, ∃ t xs, lk k m = some (.seq t xs)) ∧
   ∀ (w' : World) (SO SU : Nat → Prop) (x' : t.D) (u : Mem) (r'' : List ICell), (∀ b arr, blk w b arr → ∃ arr', blk w' b arr' ∧ arr'.size = arr.size) → (t.flat1 = true ∨ ∀ b, SO b → SU b) → ownUpd t ics x' = some (u, r'') → OwnA SO w' t v1 x' A → ShapeT t x x' →
    u.map Prod.fst = ks ∧ UpdOK g m SU w' u ∧ r'' = r := by
 have prim : ∀ (t : Ty) (hp : ∀ cs x A, A = [] ∧ Rep S2 w t cs x → OwnA S2 w t cs x A) (hu : ∀ ics x' u r'', ownUpd t ics x' = some (u, r'') → (match ics with | .dat _ _ :: r => some (([] : Mem), r) | _ => none) = some (u, r''))
   {ics : List ICell} {x : t.D} {r r' : List ICell} {ks : List Nat} {vs : List Value},
   impl1 m t ics = some (x, r) → (match ics with | .dat _ _ :: r => some ([], r) | _ => none) = some (ks, r') → All2 (CR g m S w) ics vs →
   ∃ v1 v2 A, vs = v1 ++ v2 ∧ OwnA S2 w t v1 x A ∧ All2 (CR g m S w) r v2 ∧ r' = r ∧ KeysA g m ks A ∧ (∀ k ∈ ks, ∃ t xs, lk k m = some (.seq t xs)) ∧
   ∀ (w' : World) (SO SU : Nat → Prop) (x' : t.D) (u : Mem) (r'' : List ICell), (∀ b arr, blk w b arr → ∃ arr', blk w' b arr' ∧ arr'.size = arr.size) → (t.flat1 = true ∨ ∀ b, SO b → SU b) → ownUpd t ics x' = some (u, r'') → OwnA SO w' t v1 x' A → ShapeT t x x' →
    u.map Prod.fst = ks ∧ UpdOK g m SU w' u ∧ r'' = r := by
  intro t hp hu ics x r r' ks vs h1 h2 h3
  split at h2
  ·rename_i t' y r0
   injection h2 with h2
   injection h2 with e1 e2
   subst e1
   subst e2
   cases vs with
   | nil => exact h3.elim
   | cons v vs =>
    simp only [impl1] at h1
    split at h1
    ·rename_i z hz
     injection h1 with h1
     injection h1 with e1 e2
     subst e1
     subst e2
     refine ⟨[v], vs, [], rfl, hp _ _ _ ⟨rfl, ?_⟩, h3.2, rfl, KeysA.nil, by simp, fun w' SO SU x' u r'' _ _ h _ _ => ?_⟩
     ·refine cdat_rep (m0 := []) hS ReadM.nil (c := .dat t' y) ?_ h3.1
      simp only [cdat] at hz ⊢
      exact hz
     ·have := hu _ _ _ _ h
      simp at this
      obtain ⟨e1, e2⟩ := this
      subst e1
      subst e2
      exact ⟨rfl, UpdOK.nil, rfl⟩
    ·cases h1
  ·cases h2
 intro t
 induction t with
 | int k => intro ics x r r' ks vs h1 h2 h3; exact prim (.int k) (fun _ _ _ h => h) (fun _ _ _ _ h => h) h1 h2 h3
 | flt k => intro ics x r r' ks vs h1 h2 h3; exact prim (.flt k) (fun _ _ _ h => h) (fun _ _ _ _ h => h) h1 h2 h3
 | bool => intro ics x r r' ks vs h1 h2 h3; exact prim .bool (fun _ _ _ h => h) (fun _ _ _ _ h => h) h1 h2 h3
 | str => intro ics x r r' ks vs h1 h2 h3; exact prim .str (fun _ _ _ h => h) (fun _ _ _ _ h => h) h1 h2 h3
 | st t ih => intro ics x r r' ks vs h1 h2 h3; exact ih h1 h2 h3
 | pair a b iha ihb =>
  intro ics x r r' ks vs h1 h2 h3
  simp only [impl] at h1
  simp only [ownKeys] at h2
  split at h1
  ·rename_i y r1 e1
   split at h1
   ·rename_i z r2 e2
    injection h1 with h1
    injection h1 with k1 k2
    subst k1
    subst k2
    split at h2
    ·rename_i ks1 r3 e3
     split at h2
     ·rename_i ks2 r4 e4
      injection h2 with h2
      injection h2 with k3 k4
      subst k3
      subst k4
      obtain ⟨v1, v2, A1, rfl, o1, a1, q1, s1, p1, n1⟩ := iha e1 e3 h3
      subst q1
      obtain ⟨v3, v4, A2, rfl, o2, a2, q2, s2, p2, n2⟩ := ihb e2 e4 a1
      refine ⟨v1 ++ v3, v4, A1 ++ A2, by simp, ⟨v1, v3, _, _, rfl, rfl, o1, o2⟩, a2, q2, s1.app s2, fun k hk => ?_, fun w' SO SU x' u r'' hsz hf hu ho hsh => ?_⟩
      ·rcases List.mem_append.1 hk with hk | hk
       ·exact p1 k hk
       ·exact p2 k hk
      ·simp only [ownUpd] at hu
       have hf1 : a.flat1 = true ∨ ∀ b, SO b → SU b := hf.imp_left fun hf => by simp only [Ty.flat1, Bool.and_eq_true] at hf; exact hf.1
       have hf2 : b.flat1 = true ∨ ∀ b, SO b → SU b := hf.imp_left fun hf => by simp only [Ty.flat1, Bool.and_eq_true] at hf; exact hf.2
       split at hu
       ·rename_i u1 r5 e5
        split at hu
        ·rename_i u2 r6 e6
         injection hu with hu
         injection hu with k5 k6
         subst k5
         subst k6
         obtain ⟨c1, c2, B1, B2, ec, eA, o3, o4⟩ := ho
         obtain ⟨rfl, rfl⟩ := List.append_inj ec (by rw [OwnA.len a o1, OwnA.len a o3])
         obtain ⟨rfl, rfl⟩ := List.append_inj eA (by rw [OwnA.alen a o1, OwnA.alen a o3])
         obtain ⟨g1, g2, g3⟩ := n1 w' SO SU x'.1 u1 r5 hsz hf1 e5 o3 hsh.1
         subst g3
         obtain ⟨g4, g5, g6⟩ := n2 w' SO SU x'.2 u2 r6 hsz hf2 e6 o4 hsh.2
         exact ⟨by simp [g1, g4], g2.app g5, g6⟩
        ·cases hu
       ·cases hu
     ·cases h2
    ·cases h2
   ·cases h1
  ·cases h1
 | sl t ih =>
  intro ics x r r' ks vs h1 h2 h3
  simp only [ownKeys] at h2
  split at h2
  ·rename_i c r0
   cases vs with
   | nil => exact h3.elim
   | cons v vs =>
    simp only [impl, impl1] at h1
    split at h1
    ·rename_i z hz
     injection h1 with h1
     injection h1 with e1 e2
     subst e1
     subst e2
     simp only [cdat] at hz
     split at hz
     ·rename_i e' xs hl
      rw [hl] at h2
      simp only at h2
      split at h2
      ·rename_i he
       subst he
       injection h2 with h2
       injection h2 with e1 e2
       subst e1
       subst e2
       rw [dif_pos rfl] at hz
       injection hz with hz
       subst hz
       obtain ⟨A, f1, f2, f3⟩ := own_slot hm hS hl h3.1
       refine ⟨[v], vs, A, rfl, f1, h3.2, rfl, f2, fun k hk => by simp at hk; subst hk; exact ⟨_, _, hl⟩, fun w' SO SU x' u r'' hsz hf hu ho hsh => ?_⟩
       simp only [ownUpd] at hu
       injection hu with hu
       injection hu with e1 e2
       subst e1
       subst e2
       exact ⟨rfl, f3 w' SO SU x' hsz hf ho hsh, rfl⟩
      ·cases h2
     ·cases hz
    ·cases h1
  ·rename_i r0
   injection h2 with h2
   injection h2 with e1 e2
   subst e1
   subst e2
   cases vs with
   | nil => exact h3.elim
   | cons v vs =>
    simp only [impl, impl1, cdat] at h1
    injection h1 with h1
    injection h1 with e1 e2
    subst e1
    subst e2
    obtain ⟨a, ha⟩ := h3.1
    subst ha
    refine ⟨[.slice a 0 0], vs, [fun _ => none], rfl, .inl ⟨rfl, rfl, a, rfl⟩, h3.2, rfl, ⟨[none], rfl, by simp, by simp⟩, by simp, fun w' SO SU x' u r'' hsz hf hu ho hsh => ?_⟩
    simp only [ownUpd] at hu
    injection hu with hu
    injection hu with e1 e2
    subst e1
    subst e2
    exact ⟨rfl, UpdOK.nil, rfl⟩
  ·cases h2
 | own t ih =>
  intro ics x r r' ks vs h1 h2 h3
  simp only [ownKeys] at h2
  split at h2
  ·simp [impl, impl1, cdat] at h1
  ·simp [impl, impl1, cdat] at h1
  ·cases h2
 | bx t ih =>
  intro ics x r r' ks vs h1 h2 h3
  simp only [ownKeys] at h2
  split at h2
  ·rename_i c i sz off r0
   cases vs with
   | nil => exact h3.elim
   | cons v vs =>
    simp only [impl, impl1] at h1
    split at h1
    ·rename_i z hz
     injection h1 with h1
     injection h1 with e1 e2
     subst e1
     subst e2
     simp only [cdat] at hz
     split at hz
     ·rename_i e' xs hl
      rw [hl] at h2
      simp only at h2
      split at h2
      ·rename_i he
       subst he
       injection h2 with h2
       injection h2 with e1 e2
       subst e1
       subst e2
       rw [dif_pos rfl] at hz
       cases hb : (Nat.beq i 0 && (Nat.beq off 0 && Nat.beq sz e'.size)) with
       | false => rw [hb] at hz; cases hz
       | true =>
        rw [hb] at hz
        simp only [cond_true] at hz
        injection hz with hz
        subst hz
        simp only [Bool.and_eq_true] at hb
        have hi := Nat.eq_of_beq_eq_true hb.1
        have ho := Nat.eq_of_beq_eq_true hb.2.1
        subst hi; subst ho
        obtain ⟨A, f1, f2, f3⟩ := own_box hm hS hl h3.1
        refine ⟨[v], vs, A, rfl, f1, h3.2, rfl, f2, fun k hk => by simp at hk; subst hk; exact ⟨_, _, hl⟩, fun w' SO SU x' u r'' hsz hf hu ho hsh => ?_⟩
        simp only [ownUpd] at hu
        injection hu with hu
        injection hu with e1 e2
        subst e1
        subst e2
        exact ⟨rfl, f3 w' SO SU x' hf ho hsh, rfl⟩
      ·cases h2
     ·cases hz
    ·cases h1
  ·cases h2

theorem ownKeys_nil {m : Mem} : ∀ (t : Ty) (cs : List ICell) {p : List Nat × List ICell}, ownKeys m t cs = some p → ownKeys0 t cs = some p
 | .int _, _, _, h => h
 | .flt _, _, _, h => h
 | .bool, _, _, h => h
 | .str, _, _, h => h
 | .sl t, cs, p, h => by
  simp only [ownKeys] at h
  simp only [ownKeys0]
  split at h
  ·split at h
   ·split at h
    ·exact h
    ·cases h
   ·cases h
  ·exact h
  ·cases h
 | .own t, cs, p, h => by
  simp only [ownKeys] at h
  simp only [ownKeys0]
  split at h
  ·split at h
   ·split at h
    ·exact h
    ·cases h
   ·cases h
  ·exact h
  ·cases h
 | .bx t, cs, p, h => by
  simp only [ownKeys] at h
  simp only [ownKeys0]
  split at h
  ·split at h
   ·split at h
    ·exact h
    ·cases h
   ·cases h
  ·cases h
 | .st t, cs, p, h => ownKeys_nil t cs h
 | .pair a b, cs, p, h => by
  simp only [ownKeys] at h
  simp only [ownKeys0]
  split at h
  ·rename_i x r e1
   rw [ownKeys_nil a cs e1]
   simp only
   split at h
   ·rename_i y r' e2
    rw [ownKeys_nil b r e2]
    exact h
   ·cases h
  ·cases h

end
end Go.Ide


/-
 Calls: results as new chunks; the whole.
-/
namespace Go.Ide

theorem lk_keysFrom : ∀ (l : List Chunk) (n k : Nat), lk k (keysFrom n l) = if n ≤ k then l[k - n]? else none
 | [], n, k => by simp [keysFrom, lk_nil]
 | c :: r, n, k => by
  simp only [keysFrom]
  rw [lk_cons, lk_keysFrom r (n + 1) k]
  by_cases h : k = n
  ·subst h; simp
  ·rw [if_neg h]
   by_cases hle : n ≤ k
   ·rw [if_pos hle, if_pos (by omega), show k - n = (k - (n + 1)) + 1 from by omega]
    simp
   ·rw [if_neg hle, if_neg (by omega)]

theorem keysFrom_length : ∀ (l : List Chunk) (n : Nat), (keysFrom n l).length = l.length
 | [], _ => rfl
 | _ :: r, n => by simp [keysFrom, keysFrom_length r (n + 1)]

structure Laid (g' : GM) (m' : Mem) (S' : Nat → Prop) (w : World) (n : Nat) (chs : List Chunk) (asg : List (List Nat → Option Nat)) : Prop where
 len : asg.length = chs.length
 chunk : ∀ (j : Nat) (ch : Chunk), chs[j]? = some ch → ch ≠ .gone ∧ ∃ o, asg[j]? = some o ∧ ChR g' m' S' w o ch

theorem Laid.app {g' : GM} {m' : Mem} {S' : Nat → Prop} {w : World} {n n' : Nat} {c1 c2 : List Chunk} {a1 a2 : List (List Nat → Option Nat)} (h1 : Laid g' m' S' w n c1 a1) (h2 : Laid g' m' S' w n' c2 a2) :
  Laid g' m' S' w n (c1 ++ c2) (a1 ++ a2) := by
 refine ⟨by simp [h1.len, h2.len], fun j ch hj => ?_⟩
 by_cases hlt : j < c1.length
 ·rw [List.getElem?_append_left hlt] at hj
  rw [List.getElem?_append_left (by rw [h1.len]; exact hlt)]
  exact h1.chunk j ch hj
 ·rw [List.getElem?_append_right (by omega)] at hj
  rw [List.getElem?_append_right (by rw [h1.len]; omega), h1.len]
  exact h2.chunk _ ch hj

section
variable {S : Nat → Prop} {w : World}

theorem ownS_rel {t : Ty} {cs : List Value} {xs : List t.D} {A : List (List Nat → Option Nat)} (n : Nat) (h : OwnSA S w t cs xs A) :
  ∀ (g' : GM) (m' : Mem), (∀ j ch, [Chunk.seq t xs][j]? = some ch → lk (n + j) m' = some ch) → (∀ j o, A[j]? = some o → g'.f (n + j) = o) →
   All2 (CR g' m' S w) [.all n] cs ∧ Laid g' m' S w n [.seq t xs] A := by
 rcases h with ⟨eA, hx, a, e⟩ | ⟨v, γ, eA, e, b, cap, arr, h0, ev, h1, h2, h3, h4, h5, h6⟩
 ·subst eA; subst e; subst hx
  intro g' m' hm hg
  have hl := hm 0 _ rfl
  have hgn := hg 0 _ rfl
  rw [Nat.add_zero] at hl hgn
  refine ⟨⟨⟨by rw [hl]; simp, rfl, fun t' xs' hl' => ?_⟩, trivial⟩, rfl, fun j ch hj => ?_⟩
  ·have : g' n = none := congrFun hgn []
   have e := SeqAt.toSeq hl hl'
   rw [hl] at e
   injection e with e
   injection e with e1 e2
   subst e1
   have e2 := eq_of_heq e2
   subst e2
   rw [this]; exact ⟨a, rfl⟩
  ·have : j = 0 := by
    have := (List.getElem?_eq_some_iff.1 hj).1
    simp at this; exact this
   subst this
   simp at hj
   subst hj
   exact ⟨by simp, _, rfl, rfl⟩
 ·subst eA; subst e; subst ev
  intro g' m' hm hg
  have hl := hm 0 _ rfl
  have hgn := hg 0 _ rfl
  rw [Nat.add_zero] at hl hgn
  refine ⟨⟨⟨by rw [hl]; simp, rfl, fun t' xs' hl' => ?_⟩, trivial⟩, rfl, fun j ch hj => ?_⟩
  ·have e := SeqAt.toSeq hl hl'
   rw [hl] at e
   injection e with e
   injection e with e1 e2
   subst e1
   have e2 := eq_of_heq e2
   subst e2
   have : g' n = some b := (congrFun hgn []).trans h0
   rw [this]
   exact ⟨cap, arr, rfl, h1, h3, h4, h5⟩
  ·have : j = 0 := by
    have := (List.getElem?_eq_some_iff.1 hj).1
    simp at this; exact this
   subst this
   simp at hj
   subst hj
   refine ⟨by simp, γ, rfl, ?_⟩
   unfold ChR
   rw [h0]
   exact ⟨arr, h3, h6⟩

theorem ownB_rel {t : Ty} {cs : List Value} {xs : List t.D} {A : List (List Nat → Option Nat)} (n : Nat) (h : OwnBx S w t cs xs A) :
  ∀ (g' : GM) (m' : Mem), (∀ j ch, [Chunk.seq t xs][j]? = some ch → lk (n + j) m' = some ch) → (∀ j o, A[j]? = some o → g'.f (n + j) = o) →
   All2 (CR g' m' S w) [.elp n 0 t.size 0] cs ∧ Laid g' m' S w n [.seq t xs] A := by
 obtain ⟨γ, b, arr, eA, e, h0, h3, h6⟩ := h
 subst eA; subst e
 intro g' m' hm hg
 have hl := hm 0 _ rfl
 have hgn := hg 0 _ rfl
 rw [Nat.add_zero] at hl hgn
 refine ⟨⟨⟨by rw [hl]; simp, b, (congrFun hgn []).trans h0, by simp⟩, trivial⟩, rfl, fun j ch hj => ?_⟩
 have : j = 0 := by
  have := (List.getElem?_eq_some_iff.1 hj).1
  simp at this; exact this
 subst this
 simp at hj
 subst hj
 refine ⟨by simp, γ, rfl, ?_⟩
 unfold ChR
 rw [h0]
 exact ⟨arr, h3, h6⟩

theorem explF_slots : ∀ (t : Ty) (x : t.D) (n : Nat), (explF t x n).2.length = t.slots
 | .int _, _, _ => rfl
 | .flt _, _, _ => rfl
 | .bool, _, _ => rfl
 | .str, _, _ => rfl
 | .sl _, _, _ => rfl
 | .bx _, _, _ => rfl
 | .own _, _, _ => rfl
 | .st t, x, n => explF_slots t x n
 | .pair a b, x, n => by simp only [explF, List.length_append, explF_slots a, explF_slots b]; rfl

theorem explF_rel : ∀ (t : Ty) {cs : List Value} {x : t.D} {A : List (List Nat → Option Nat)} (n : Nat), OwnA S w t cs x A → 
  ∀ (g' : GM) (m' : Mem), (∀ j ch, (explF t x n).2[j]? = some ch → lk (n + j) m' = some ch) → (∀ j o, A[j]? = some o → g'.f (n + j) = o) →
   All2 (CR g' m' S w) (explF t x n).1 cs ∧ Laid g' m' S w n (explF t x n).2 A
 | .int _, _, _, _, n, ⟨hF, h⟩ => by
  subst hF; subst h
  exact fun g' m' _ _ => ⟨⟨rfl, trivial⟩, rfl, fun j ch hj => by simp [explF] at hj⟩
 | .flt _, _, _, _, n, ⟨hF, b, e, h⟩ => by
  subst hF; subst e
  exact fun g' m' _ _ => ⟨⟨⟨b, rfl, h⟩, trivial⟩, rfl, fun j ch hj => by simp [explF] at hj⟩
 | .bool, _, _, _, n, ⟨hF, h⟩ => by
  subst hF; subst h
  exact fun g' m' _ _ => ⟨⟨rfl, trivial⟩, rfl, fun j ch hj => by simp [explF] at hj⟩
 | .str, _, _, _, n, ⟨hF, h⟩ => by
  subst hF; subst h
  exact fun g' m' _ _ => ⟨⟨rfl, trivial⟩, rfl, fun j ch hj => by simp [explF] at hj⟩
 | .st t, _, _, _, n, h => explF_rel t (cs := _) n h
 | .pair a b, _, x, _, n, ⟨c1, c2, A1, A2, e1, e2, h1, h2⟩ => by
  subst e1; subst e2
  intro g' m' hm hg
  have l1 : A1.length = (explF a x.1 n).2.length := by rw [explF_slots, OwnA.alen a h1]
  obtain ⟨p1, q1⟩ := explF_rel a n h1 g' m' (fun j ch hj => hm j ch (by
    simp only [explF]
    rw [List.getElem?_append_left (List.getElem?_eq_some_iff.1 hj).1]; exact hj)) (fun j o hj => hg j o (by
    rw [List.getElem?_append_left (List.getElem?_eq_some_iff.1 hj).1]; exact hj))
  obtain ⟨p2, q2⟩ := explF_rel b (n + (explF a x.1 n).2.length) h2 g' m' (fun j ch hj => by
    rw [Nat.add_assoc]
    refine hm _ ch ?_
    simp only [explF]
    rw [List.getElem?_append_right (by omega)]
    simpa using hj) (fun j o hj => by
    rw [Nat.add_assoc]
    refine hg _ o ?_
    rw [List.getElem?_append_right (by omega), l1]
    simpa using hj)
  exact ⟨p1.append p2, q1.app q2⟩
 | .sl t, _, xs, _, n, h => ownS_rel n h
 | .bx t, _, xs, _, n, h => ownB_rel n h
 | .own t, _, xs, _, n, h => ownS_rel n h

theorem valOf_CV {g' : GM} {m' : Mem} {t : Ty} {cs : List Value} {ics : List ICell} {v : Value} (h : ValOf t cs v) (ha : All2 (CR g' m' S w) ics cs) : CV g' m' S w t.isSt ics v := by
 unfold ValOf at h
 unfold CV
 cases hst : t.isSt with
 | true => rw [hst] at h; simp at h; exact ⟨cs, h, ha⟩
 | false =>
  rw [hst] at h
  simp at h
  subst h
  cases ics with
  | nil => exact ha.elim
  | cons c r =>
   cases r with
   | nil => exact ha.1
   | cons => exact ha.2.elim

theorem explR_rel : ∀ {rs : List RV} {vs : List Value} {A : List (List Nat → Option Nat)} (n : Nat), RVsR S w rs vs A → A.length = (explR rs n).2.length ∧
  ∀ (g' : GM) (m' : Mem), (∀ j ch, (explR rs n).2[j]? = some ch → lk (n + j) m' = some ch) → (∀ j o, A[j]? = some o → g'.f (n + j) = o) →
   All2 (fun (t : Bool × List ICell) v => CV g' m' S w t.1 t.2 v) (explR rs n).1 vs ∧ Laid g' m' S w n (explR rs n).2 A
 | [], [], A, n, h => by
  have : A = [] := h
  subst this
  exact ⟨rfl, fun _ _ _ _ => ⟨trivial, rfl, fun j ch hj => by simp [explR] at hj⟩⟩
 | r :: rs, v :: vs, A, n, ⟨A1, A2, e, h1, h2⟩ => by
  subst e
  have head : ∃ p : List ICell × List Chunk, p = (if r.fresh then explF r.t r.x n else (expl r.t r.x, [])) ∧ A1.length = p.2.length ∧
    ∀ (g' : GM) (m' : Mem), (∀ j ch, p.2[j]? = some ch → lk (n + j) m' = some ch) → (∀ j o, A1[j]? = some o → g'.f (n + j) = o) → CV g' m' S w r.t.isSt p.1 v ∧ Laid g' m' S w n p.2 A1 := by
   unfold RVR at h1
   split at h1
   ·rename_i hf
    obtain ⟨cs, hv, ho⟩ := h1
    refine ⟨explF r.t r.x n, by rw [if_pos hf], by rw [explF_slots, OwnA.alen _ ho], fun g' m' hm hg => ?_⟩
    obtain ⟨p1, q1⟩ := explF_rel r.t n ho g' m' hm hg
    exact ⟨valOf_CV hv p1, q1⟩
   ·rename_i hf
    obtain ⟨hF, cs, hv, hr⟩ := h1
    subst hF
    refine ⟨(expl r.t r.x, []), by rw [if_neg hf], rfl, fun g' m' hm hg => ⟨valOf_CV hv (expl_rel r.t hr), rfl, fun j ch hj => by simp at hj⟩⟩
  obtain ⟨p, hp, l1, k1⟩ := head
  obtain ⟨l2, k2⟩ := explR_rel (n + p.2.length) h2
  have e2 : (explR (r :: rs) n).2 = p.2 ++ (explR rs (n + p.2.length)).2 := by rw [hp]; rfl
  have e1 : (explR (r :: rs) n).1 = (r.t.isSt, p.1) :: (explR rs (n + p.2.length)).1 := by rw [hp]; rfl
  refine ⟨by rw [e2]; simp [l1, l2], fun g' m' hm hg => ?_⟩
  rw [e2] at hm ⊢
  rw [e1]
  obtain ⟨p1, q1⟩ := k1 g' m' (fun j ch hj => hm j ch (by
    rw [List.getElem?_append_left (List.getElem?_eq_some_iff.1 hj).1]; exact hj)) (fun j o hj => hg j o (by
    rw [List.getElem?_append_left (List.getElem?_eq_some_iff.1 hj).1]; exact hj))
  obtain ⟨p2, q2⟩ := k2 g' m' (fun j ch hj => by
    rw [Nat.add_assoc]
    refine hm _ ch ?_
    rw [List.getElem?_append_right (by omega)]
    simpa using hj) (fun j o hj => by
    rw [Nat.add_assoc]
    refine hg _ o ?_
    rw [List.getElem?_append_right (by omega), l1]
    simpa using hj)
  exact ⟨⟨p1, p2⟩, q1.app q2⟩
 | [], _ :: _, _, _, h => h.elim
 | _ :: _, [], _, _, h => h.elim

theorem resV_VR {g' : GM} {m' : Mem} {l : List (Bool × List ICell)} {vs : List Value} {v : Value} (h : All2 (fun (t : Bool × List ICell) v => CV g' m' S w t.1 t.2 v) l vs)
  (hv : ResOf vs v) : VR g' m' S w (resV l) v := by
 match l, vs with
 | [], [] => exact ⟨[], hv, trivial⟩
 | [(true, cs)], [u] =>
  have hv : v = u := hv
  subst hv
  exact h.1
 | [(false, [c])], [u] =>
  have hv : v = u := hv
  subst hv
  exact h.1
 | [(false, [])], [u] => exact h.1.elim
 | [(false, _ :: _ :: _)], [u] => exact h.1.elim
 | (b1, c1) :: t2 :: ts, u1 :: u2 :: us =>
  have e : resV ((b1, c1) :: t2 :: ts) = .tup ((b1, c1) :: t2 :: ts) := by
   cases b1 <;> rcases c1 with _ | ⟨x, _ | ⟨y, ys⟩⟩ <;> rfl
  rw [e]
  exact ⟨u1 :: u2 :: us, hv, h⟩
 | [], _ :: _ => exact h.elim
 | [_], [] => exact h.elim
 | [_], _ :: _ :: _ => exact h.2.elim
 | _ :: _ :: _, [] => exact h.elim
 | _ :: _ :: _, [_] => exact h.2.elim

end
end Go.Ide


/-
 Calls: the whole.
-/
namespace Go.Ide

section
variable {g : GM} {m : Mem} {S S2 : Nat → Prop} {w : World}

theorem args_rel (hm : ChAll g m S w) (hS : ∀ b, S b → S2 b) {mA mB m2 : Mem} (hR : ReadM g m m2 S2 w) (hA : mB = [] ∨ mB = m)
  (hbox : ∀ c cs b, lk c mB = some (.box cs) → g c = some b → S2 b) :
  ∀ {ms : List Mode} {vs : List IVal} {vals : List Value} {as : List Arg} {ks : List Nat} {up : Mem} {outs : List TD}, (mA = m ∨ noOwn ms = true) →
   argsOf mA mB m2 ms vs = some as → ownKeysAll m ms vs = some ks → ownUpdAll ms vs outs = some up → All2 (VR g m S w) vs vals →
   ∃ Fs : List (List (List Nat → Option Nat)), ArgsR S2 w as vals Fs ∧ KeysA g m ks Fs.flatten ∧
    (∀ (w' : World) (SO SU : Nat → Prop), (∀ b arr, blk w b arr → ∃ arr', blk w' b arr' ∧ arr'.size = arr.size) → (modesFlat ms = true ∨ noOwn ms = true ∨ ∀ b, SO b → SU b) → OutsR SO w' as vals Fs outs → up.map Prod.fst = ks ∧ UpdOK g m SU w' up) ∧
    (∀ b, MvB b as Fs → ∃ k p t xs, g.f k p = some b ∧ lk k m = some (.seq t xs) ∧ (k, Chunk.gone) ∈ up)
 | [], [], vals, as, ks, up, outs, _, h1, h2, h3, h4 => by
  cases vals with
  | cons => exact h4.elim
  | nil =>
   simp only [argsOf] at h1
   injection h1 with h1
   subst h1
   simp only [ownKeysAll] at h2
   injection h2 with h2
   subst h2
   cases outs with
   | cons => simp [ownUpdAll] at h3
   | nil =>
    simp only [ownUpdAll] at h3
    injection h3 with h3
    subst h3
    exact ⟨[], trivial, KeysA.nil, fun _ _ _ _ _ _ => ⟨rfl, fun p hp => by simp at hp⟩, fun b hb => by simp [MvB] at hb⟩
 | md :: ms, v :: vs, [], as, ks, up, outs, _, h1, h2, h3, h4 => h4.elim
 | md :: ms, v :: vs, u :: vals, as, ks, up, outs, hno, h1, h2, h3, h4 => by
  -- a mode that is neither 'own' nor 'mv'
  have other : ∀ (hmd : ∀ t, md ≠ .own t) (hmd2 : ∀ t, md ≠ .mv t), ∃ Fs : List (List (List Nat → Option Nat)), ArgsR S2 w as (u :: vals) Fs ∧ KeysA g m ks Fs.flatten ∧
    (∀ (w' : World) (SO SU : Nat → Prop), (∀ b arr, blk w b arr → ∃ arr', blk w' b arr' ∧ arr'.size = arr.size) → (modesFlat (md :: ms) = true ∨ noOwn (md :: ms) = true ∨ ∀ b, SO b → SU b) → OutsR SO w' as (u :: vals) Fs outs → up.map Prod.fst = ks ∧ UpdOK g m SU w' up) ∧
    (∀ b, MvB b as Fs → ∃ k p t xs, g.f k p = some b ∧ lk k m = some (.seq t xs) ∧ (k, Chunk.gone) ∈ up) := by
   intro hmd hmd2
   have e1 : argsOf mA mB m2 (md :: ms) (v :: vs) = (match argP mB m2 md v, argsOf mA mB m2 ms vs with | some a, some as => some (a :: as) | _, _ => none) := by
    cases md <;> first | rfl | exact absurd rfl (hmd _) | exact absurd rfl (hmd2 _)
   have e2 : ownKeysAll m (md :: ms) (v :: vs) = ownKeysAll m ms vs := by cases md <;> first | rfl | exact absurd rfl (hmd _) | exact absurd rfl (hmd2 _)
   have e3 : ownUpdAll (md :: ms) (v :: vs) outs = ownUpdAll ms vs outs := by cases md <;> first | rfl | exact absurd rfl (hmd _) | exact absurd rfl (hmd2 _)
   have e4 : modesFlat (md :: ms) = modesFlat ms := by cases md <;> first | rfl | exact absurd rfl (hmd _) | exact absurd rfl (hmd2 _)
   have e5 : noOwn (md :: ms) = noOwn ms := by cases md <;> first | rfl | exact absurd rfl (hmd _) | exact absurd rfl (hmd2 _)
   rw [e1] at h1
   rw [e2] at h2
   rw [e3] at h3
   split at h1
   ·rename_i a as' ha has
    injection h1 with h1
    subst h1
    obtain ⟨Fs, k1, k2, k5, k6⟩ := args_rel hm hS hR hA hbox (by rw [← e5]; exact hno) has h2 h3 h4.2
    have harg : ArgR S2 w a u [] ∧ (∀ t x, a ≠ .own t x) ∧ (∀ t x, a ≠ .mv t x) := by
     have hv := h4.1
     -- by cases on the mode
     have imm : ∀ t, md = .imm t → ArgR S2 w a u [] ∧ (∀ t x, a ≠ .own t x) ∧ (∀ t x, a ≠ .mv t x) := by
      intro t e
      subst e
      have ha : argOf m2 (.imm t) v = some a := ha
      simp only [argOf] at ha
      split at ha
      ·rename_i x hx
       injection ha with ha
       subst ha
       obtain ⟨cs, q1, q2⟩ := vdat_rep hS hR hx hv
       exact ⟨⟨rfl, cs, q1, q2⟩, (fun _ _ e => by cases e), fun _ _ e => by cases e⟩
      ·cases ha
     have ipc : ∀ t t' x off, argOf m2 (.pimm t) (.one (.ip t' x off)) = some a → VR g m S w (.one (.ip t' x off)) u → ArgR S2 w a u [] ∧ (∀ t x, a ≠ .own t x) ∧ (∀ t x, a ≠ .mv t x) := by
      intro t t' x off ha hv
      simp only [argOf] at ha
      split at ha
      ·rename_i y hy
       injection ha with ha
       subst ha
       obtain ⟨ad, es, e, hs, hcell, hrep⟩ := hv
       have hall : All2 (CR g m S w) (expl t' x) es := expl_rel t' hrep
       obtain ⟨v1, v2, e2, r1, r2⟩ := impl_rep hS hR t hy ((hall.drop off).take t.size)
       have : v2 = [] := by cases v2 with | nil => rfl | cons => exact r2.elim
       subst this
       refine ⟨⟨rfl, ad.add off, v1, e, by rw [add_block]; exact hS _ hs, fun j q hq => ?_, r1⟩, (fun _ _ e => by cases e), fun _ _ e => by cases e⟩
       rw [add_add]
       rw [List.append_nil] at e2
       rw [← e2, List.getElem?_take] at hq
       split at hq
       ·exact hcell _ q (by simpa using hq)
       ·cases hq
      ·cases ha
     cases md with
     | own t => exact absurd rfl (hmd t)
     | mv t => exact absurd rfl (hmd2 t)
     | nl =>
      cases v with
      | one c =>
       cases c with
       | nilS =>
        simp only [argP, argOf] at ha
        injection ha with ha
        subst ha
        exact ⟨⟨rfl, hv⟩, (fun _ _ e => by cases e), fun _ _ e => by cases e⟩
       | _ => simp [argP, argOf] at ha
      | _ => simp [argP, argOf] at ha
     | imm t => exact imm t rfl
     | fn =>
      cases v with
      | one c =>
       cases c with
       | fn f =>
        simp only [argP, argOf] at ha
        injection ha with ha
        subst ha
        exact ⟨⟨rfl, hv⟩, (fun _ _ e => by cases e), fun _ _ e => by cases e⟩
       | _ => simp [argP, argOf] at ha
      | _ => simp [argP, argOf] at ha
     | clo t =>
      cases v with
      | one c =>
       cases c with
       | clo f t' x =>
        simp only [argP, argOf] at ha
        split at ha
        ·rename_i e
         subst e
         injection ha with ha
         subst ha
         obtain ⟨ad, es, e, hs, hcell, hrep⟩ := hv
         exact ⟨⟨rfl, ad, es, e, hS _ hs, hcell, Rep.keep (fun b hb => ⟨hS b hb, rfl⟩) _ es x hrep⟩, (fun _ _ e => by cases e), fun _ _ e => by cases e⟩
        ·cases ha
       | _ => simp [argP, argOf] at ha
      | _ => simp [argP, argOf] at ha
     | pimm t =>
      cases v with
      | one c =>
       cases c with
       | ip t' x off => exact ipc t t' x off ha hv
       | ptr c off =>
        simp only [argP] at ha
        split at ha
        ·rename_i cs hl
         split at ha
         ·rename_i y hy
          injection ha with ha
          subst ha
          obtain ⟨_, b, hg, e⟩ := hv
          have hlm : lk c m = some (.box cs) := by
           rcases hA with hA | hA
           ·rw [hA] at hl; simp [lk_nil] at hl
           ·rw [← hA]; exact hl
          obtain ⟨b', arr, hg', hblk, hall⟩ := hm c _ hlm
          rw [show g.f c [] = some b from hg] at hg'
          injection hg' with hg'
          subst hg'
          obtain ⟨v1, v2, e2, r1, r2⟩ := impl_rep hS hR t hy ((hall.drop off).take t.size)
          have : v2 = [] := by cases v2 with | nil => rfl | cons => exact r2.elim
          subst this
          refine ⟨⟨rfl, ⟨b, off, none⟩, v1, e, hbox c cs b hl hg, fun j q hq => ?_, r1⟩, (fun _ _ e => by cases e), fun _ _ e => by cases e⟩
          rw [add_none, hblk.cell]
          rw [List.append_nil] at e2
          rw [← e2, List.getElem?_take] at hq
          split at hq
          ·simpa using hq
          ·cases hq
         ·cases ha
        ·cases ha
       | _ => simp [argP, argOf] at ha
      | _ => simp [argP, argOf] at ha
    refine ⟨[] :: Fs, ⟨harg.1, k1⟩, by simpa using k2, fun w' SO SU hsz hf ho => ?_, fun b hb => ?_⟩
    ·refine k5 w' SO SU hsz (by rw [e4, e5] at hf; exact hf) ?_
     cases a with
     | own t x => exact absurd rfl (harg.2.1 t x)
     | mv t x => exact absurd rfl (harg.2.2 t x)
     | imm t x => exact ho
     | pimm t x => exact ho
     | fn f => exact ho
     | clo f t x => exact ho
     | nl => exact ho
    ·refine k6 b ?_
     cases a with
     | mv t x => exact absurd rfl (harg.2.2 t x)
     | _ => exact hb
   ·cases h1
  cases md with
  | imm t => exact other (fun _ e => by cases e) (fun _ e => by cases e)
  | pimm t => exact other (fun _ e => by cases e) (fun _ e => by cases e)
  | fn => exact other (fun _ e => by cases e) (fun _ e => by cases e)
  | clo t => exact other (fun _ e => by cases e) (fun _ e => by cases e)
  | nl => exact other (fun _ e => by cases e) (fun _ e => by cases e)
  | mv t =>
   have hmA : mA = m := by
    rcases hno with hno | hno
    ·exact hno
    ·cases hno
   simp only [argsOf] at h1
   split at h1
   ·rename_i a as' ha has
    injection h1 with h1
    subst h1
    simp only [argOf] at ha
    split at ha
    ·rename_i x hx
     rw [hmA] at hx
     injection ha with ha
     subst ha
     simp only [ownKeysAll] at h2
     split at h2
     ·rename_i ks1 ks2 hk1 hk2
      injection h2 with h2
      subst h2
      simp only [ownUpdAll] at h3
      split at h3
      ·rename_i ks1' u2 hk1' hu2
       rw [ownKeys_nil t _ hk1] at hk1'
       injection hk1' with hk1'
       injection hk1' with hk1' _
       subst hk1'
       injection h3 with h3
       subst h3
       obtain ⟨Fs, k1, k2, k5, k6⟩ := args_rel hm hS hR hA hbox (.inl hmA) has hk2 hu2 h4.2
       have hcells : ∃ vcs, ValOf t vcs u ∧ All2 (CR g m S w) v.cells vcs ∧ impl m t v.cells = some (x, []) := by
        have hv := h4.1
        unfold vdat at hx
        split at hx
        ·rename_i c hst
         split at hx
         ·rename_i y hy
          injection hx with hx
          subst hx
          exact ⟨[u], by simp [ValOf, hst], ⟨hv, trivial⟩, hy⟩
         ·cases hx
        ·rename_i cs hst
         split at hx
         ·rename_i y hy
          injection hx with hx
          subst hx
          obtain ⟨vs', e, hvs⟩ := hv
          exact ⟨vs', by simp [ValOf, hst, e], hvs, hy⟩
         ·cases hx
        ·cases hx
       obtain ⟨vcs, hval, hall, himp⟩ := hcells
       obtain ⟨v1, v2, F1, e1, o1, a1, q1, s1, p1, n1⟩ := own_rel hm hS t himp hk1 hall
       have : v2 = [] := by cases v2 with | nil => rfl | cons => exact a1.elim
       subst this
       rw [List.append_nil] at e1
       subst e1
       have hseq := p1
       refine ⟨F1 :: Fs, ⟨⟨vcs, hval, o1⟩, k1⟩, by simpa using s1.app k2, fun w' SO SU hsz hf ho => ?_, fun b hb => ?_⟩
       ·have hf : modesFlat ms = true ∨ noOwn ms = true ∨ ∀ b, SO b → SU b := by
         rcases hf with hf | hf | hf
         ·exact .inl hf
         ·cases hf
         ·exact .inr (.inr hf)
        obtain ⟨g3, g4⟩ := k5 w' SO SU hsz hf ho
        refine ⟨by simp [g3, List.map_map, Function.comp_def], fun p hp => ?_⟩
        rcases List.mem_append.1 hp with hp | hp
        ·obtain ⟨k, hk, rfl⟩ := List.mem_map.1 hp
         obtain ⟨t', xs', hl'⟩ := hseq k hk
         exact ⟨t', xs', hl', .inl rfl⟩
        ·exact g4 p hp
       ·rcases hb with ⟨γ, hγ, p, hp⟩ | hb
        ·obtain ⟨k, hk, p, t', xs', q1, q2⟩ := s1.blk hγ hp
         exact ⟨k, p, t', xs', q1, q2, List.mem_append.2 (.inl (List.mem_map.2 ⟨k, hk, rfl⟩))⟩
        ·obtain ⟨k, p, t', xs', q1, q2, q3⟩ := k6 b hb
         exact ⟨k, p, t', xs', q1, q2, List.mem_append.2 (.inr q3)⟩
      ·cases h3
     ·cases h2
    ·cases ha
   ·cases h1
  | own t =>
   have hmA : mA = m := by
    rcases hno with hno | hno
    ·exact hno
    ·cases hno
   simp only [argsOf] at h1
   split at h1
   ·rename_i a as' ha has
    injection h1 with h1
    subst h1
    simp only [argOf] at ha
    split at ha
    ·rename_i x hx
     rw [hmA] at hx
     injection ha with ha
     subst ha
     simp only [ownKeysAll] at h2
     split at h2
     ·rename_i ks1 ks2 hk1 hk2
      injection h2 with h2
      subst h2
      cases outs with
      | nil => simp [ownUpdAll] at h3
      | cons o outs =>
       simp only [ownUpdAll] at h3
       split at h3
       ·rename_i ht
        split at h3
        ·rename_i u1 u2 hu1 hu2
         injection h3 with h3
         subst h3
         obtain ⟨Fs, k1, k2, k5, k6⟩ := args_rel hm hS hR hA hbox (.inl hmA) has hk2 hu2 h4.2
         -- the value's cells
         have hcells : ∃ vcs, ValOf t vcs u ∧ All2 (CR g m S w) v.cells vcs ∧ impl m t v.cells = some (x, []) := by
          have hv := h4.1
          unfold vdat at hx
          split at hx
          ·rename_i c hst
           split at hx
           ·rename_i y hy
            injection hx with hx
            subst hx
            exact ⟨[u], by simp [ValOf, hst], ⟨hv, trivial⟩, hy⟩
           ·cases hx
          ·rename_i cs hst
           split at hx
           ·rename_i y hy
            injection hx with hx
            subst hx
            obtain ⟨vs', e, hvs⟩ := hv
            exact ⟨vs', by simp [ValOf, hst, e], hvs, hy⟩
           ·cases hx
          ·cases hx
         obtain ⟨vcs, hval, hall, himp⟩ := hcells
         obtain ⟨v1, v2, F1, e1, o1, a1, q1, s1, p1, n1⟩ := own_rel hm hS t himp hk1 hall
         have : v2 = [] := by cases v2 with | nil => rfl | cons => exact a1.elim
         subst this
         rw [List.append_nil] at e1
         subst e1
         refine ⟨F1 :: Fs, ⟨⟨vcs, hval, o1⟩, k1⟩, by simpa using s1.app k2, fun w' SO SU hsz hf ho => ?_, fun b hb => ?_⟩
         ·have hf : (t.flat1 = true ∨ ∀ b, SO b → SU b) ∧ (modesFlat ms = true ∨ noOwn ms = true ∨ ∀ b, SO b → SU b) := by
           rcases hf with hf | hf | hf
           ·have hf : t.flat1 = true ∧ modesFlat ms = true := by simpa [modesFlat] using hf
            exact ⟨.inl hf.1, .inl hf.2⟩
           ·cases hf
           ·exact ⟨.inr hf, .inr (.inr hf)⟩
          obtain ⟨⟨ht', cs', hval', own', hsh'⟩, ho'⟩ := ho
          have hcs : cs' = vcs := by
           unfold ValOf at hval hval'
           split at hval
           ·rename_i hst
            rw [if_pos hst] at hval'
            rw [hval] at hval'
            simpa using hval'.symm
           ·rename_i hst
            rw [if_neg hst] at hval'
            rw [hval, hval']
          subst hcs
          obtain ⟨g1, g2, _⟩ := n1 w' SO SU _ _ _ hsz hf.1 hu1 own' hsh'
          obtain ⟨g3, g4⟩ := k5 w' SO SU hsz hf.2 ho'
          refine ⟨by simp [g1, g3], fun p hp => ?_⟩
          rcases List.mem_append.1 hp with hp | hp
          ·exact g2 p hp
          ·exact g4 p hp
         ·obtain ⟨k, p, t', xs', q1, q2, q3⟩ := k6 b hb
          exact ⟨k, p, t', xs', q1, q2, List.mem_append.2 (.inr q3)⟩
        ·cases h3
       ·cases h3
     ·cases h2
    ·cases ha
   ·cases h1
 | [], _ :: _, _, _, _, _, _, _, h1, _, _, _ => by simp [argsOf] at h1
 | md :: _, [], _, _, _, _, _, _, h1, _, _, _ => by cases md <;> simp [argsOf] at h1

end
end Go.Ide


/-
 A call and what has become of memory behind it.
-/
namespace Go.Ide

theorem Stays.mono {g : GM} {m : Mem} {S S' : Nat → Prop} {w : World} (h : ∀ b, S b → S' b) : Stays g g m m S S' w w :=
 ⟨⟨fun b hb => ⟨h b hb, rfl⟩, fun _ hc => ⟨hc, rfl⟩, fun _ _ xs _ hl => ⟨xs, hl, rfl⟩, fun _ _ _ _ arr _ _ _ hb => ⟨arr, hb, rfl⟩⟩, fun _ _ => rfl,
  fun _ _ xs _ hl => ⟨xs, hl, ShapeEq.refl _ _, fun _ _ _ arr _ hb => ⟨arr, hb, rfl⟩⟩⟩

theorem CV.mono {g : GM} {m : Mem} {S S' : Nat → Prop} {w : World} (h : ∀ b, S b → S' b) {ag : Bool} {cs : List ICell} {v : Value} (hc : CV g m S w ag cs v) : CV g m S' w ag cs v := by
 unfold CV at hc ⊢
 split at hc
 ·obtain ⟨us, e', hu⟩ := hc; exact ⟨us, e', hu.mono fun _ _ => CR.stays (Stays.mono h)⟩
 ·exact CR.stays (Stays.mono h) hc
 ·exact hc.elim

section
variable {S S' : Nat → Prop} {w w' : World}

theorem OwnSA.mono (h : ∀ b, S b → S' b) {t : Ty} {cs : List Value} {xs : List t.D} {A : List (List Nat → Option Nat)} (hr : OwnSA S w t cs xs A) : OwnSA S' w t cs xs A := by
 rcases hr with hr | ⟨v, γ, eA, e, b, cap, arr, k1, k2, k3, k4, k5, k6, k7, k8⟩
 ·exact .inl hr
 ·exact .inr ⟨v, γ, eA, e, b, cap, arr, k1, k2, k3, k4, k5, k6, k7, k8.keep (fun b hb => ⟨h b hb, rfl⟩) fun _ _ _ => rfl⟩

theorem OwnA.mono (h : ∀ b, S b → S' b) : ∀ (t : Ty) {cs : List Value} {x : t.D} {A : List (List Nat → Option Nat)}, OwnA S w t cs x A → OwnA S' w t cs x A
 | .int _, _, _, _, hr => hr
 | .flt _, _, _, _, hr => hr
 | .bool, _, _, _, hr => hr
 | .str, _, _, _, hr => hr
 | .pair a b, _, _, _, ⟨c1, c2, F1, F2, e1, e2, h1, h2⟩ => ⟨c1, c2, F1, F2, e1, e2, OwnA.mono h a h1, OwnA.mono h b h2⟩
 | .st t, _, _, _, hr => OwnA.mono h t (cs := _) hr
 | .sl t, _, _, _, hr => OwnSA.mono h hr
 | .bx t, _, _, _, ⟨γ, b, arr, eA, e, h0, h1, h2⟩ => ⟨γ, b, arr, eA, e, h0, h1, h2.keep (fun b hb => ⟨h b hb, rfl⟩) fun _ _ _ => rfl⟩
 | .own t, _, _, _, hr => OwnSA.mono h hr

theorem OwnSA.flat {t : Ty} (hf : t.flatO = true) {cs : List Value} {xs : List t.D} {A : List (List Nat → Option Nat)} (hr : OwnSA S w t cs xs A) : OwnSA S' w t cs xs A := by
 rcases hr with hr | ⟨v, γ, eA, e, b, cap, arr, k1, k2, k3, k4, k5, k6, k7, k8⟩
 ·exact .inl hr
 ·exact .inr ⟨v, γ, eA, e, b, cap, arr, k1, k2, k3, k4, k5, k6, k7, k8.flatO hf⟩

theorem OwnA.flat1 : ∀ (t : Ty) {cs : List Value} {x : t.D} {A : List (List Nat → Option Nat)}, t.flat1 = true → OwnA S w t cs x A → OwnA S' w t cs x A
 | .int _, _, _, _, _, hr => hr
 | .flt _, _, _, _, _, hr => hr
 | .bool, _, _, _, _, hr => hr
 | .str, _, _, _, _, hr => hr
 | .pair a b, _, _, _, hf, ⟨c1, c2, F1, F2, e1, e2, h1, h2⟩ => by
  simp only [Ty.flat1, Bool.and_eq_true] at hf
  exact ⟨c1, c2, F1, F2, e1, e2, OwnA.flat1 a hf.1 h1, OwnA.flat1 b hf.2 h2⟩
 | .st t, _, _, _, hf, hr => OwnA.flat1 t (cs := _) hf hr
 | .sl t, _, _, _, hf, hr => OwnSA.flat hf hr
 | .bx t, _, _, _, hf, ⟨γ, b, arr, eA, e, h0, h1, h2⟩ => ⟨γ, b, arr, eA, e, h0, h1, h2.flatO hf⟩
 | .own t, _, _, _, hf, hr => OwnSA.flat hf hr

theorem RVsR.mono (h : ∀ b, S b → S' b) : ∀ {rs : List RV} {vs : List Value} {A : List (List Nat → Option Nat)}, RVsR S w rs vs A → RVsR S' w rs vs A
 | [], [], _, hr => hr
 | r :: rs, v :: vs, _, ⟨F1, F2, e, h1, h2⟩ => by
  refine ⟨F1, F2, e, ?_, RVsR.mono h h2⟩
  unfold RVR at h1 ⊢
  split at h1
  ·rename_i hf
   rw [if_pos hf]
   obtain ⟨cs, k1, k2⟩ := h1
   exact ⟨cs, k1, OwnA.mono h _ k2⟩
  ·rename_i hf
   rw [if_neg hf]
   obtain ⟨k0, cs, k1, k2⟩ := h1
   exact ⟨k0, cs, k1, Rep.keep (fun b hb => ⟨h b hb, rfl⟩) _ _ _ k2⟩
 | [], _ :: _, _, hr => hr.elim
 | _ :: _, [], _, hr => hr.elim

theorem RVsR.alone : ∀ {rs : List RV} {vs : List Value} {A : List (List Nat → Option Nat)}, rs.all RV.okAlone = true → RVsR S w rs vs A → RVsR S' w rs vs A
 | [], [], _, _, hr => hr
 | r :: rs, v :: vs, _, ho, ⟨F1, F2, e, h1, h2⟩ => by
  simp only [List.all_cons, Bool.and_eq_true] at ho
  refine ⟨F1, F2, e, ?_, RVsR.alone ho.2 h2⟩
  have ho1 := ho.1
  unfold RV.okAlone at ho1
  unfold RVR at h1 ⊢
  split at h1
  ·rename_i hf
   rw [if_pos hf] at ho1 ⊢
   obtain ⟨cs, k1, k2⟩ := h1
   exact ⟨cs, k1, OwnA.flat1 _ ho1 k2⟩
  ·rename_i hf
   rw [if_neg hf] at ho1 ⊢
   obtain ⟨k0, cs, k1, k2⟩ := h1
   exact ⟨k0, cs, k1, Rep.flat _ ho1 k2⟩
 | [], _ :: _, _, _, hr => hr.elim
 | _ :: _, [], _, _, hr => hr.elim

end

theorem lk_mem {α : Type} : ∀ {l : List (Nat × α)} {k : Nat} {v : α}, lk k l = some v → (k, v) ∈ l
 | [], _, _, h => by simp [lk_nil] at h
 | (k', v') :: l, k, v, h => by
  rw [lk_cons] at h
  split at h
  ·rename_i e; subst e; injection h with h; subst h; simp
  ·exact List.mem_cons_of_mem _ (lk_mem h)

theorem lk_ofmem {α : Type} : ∀ {l : List (Nat × α)} {k : Nat} {v : α}, (l.map Prod.fst).Nodup → (k, v) ∈ l → lk k l = some v
 | [], _, _, _, h => by simp at h
 | (k', v') :: l, k, v, hn, h => by
  simp only [List.map_cons, List.nodup_cons] at hn
  rw [lk_cons]
  rcases List.mem_cons.1 h with h | h
  ·injection h with h1 h2
   rw [if_pos h1, h2]
  ·have : k ≠ k' := fun e => hn.1 (by rw [← e]; exact List.mem_map.2 ⟨(k, v), h, rfl⟩)
   rw [if_neg this]
   exact lk_ofmem hn.2 h

theorem lk_none {α : Type} : ∀ {l : List (Nat × α)} {k : Nat}, lk k l = none → k ∉ l.map Prod.fst
 | [], _, _ => by simp
 | (k', v') :: l, k, h => by
  rw [lk_cons] at h
  split at h
  ·cases h
  ·rename_i e
   simp only [List.map_cons, List.mem_cons, not_or]
   exact ⟨e, lk_none h⟩

theorem nodupB_spec : ∀ {l : List Nat}, nodupB l = true → l.Nodup
 | [], _ => by simp
 | a :: l, h => by
  simp only [nodupB, Bool.and_eq_true, List.all_eq_true, Bool.not_eq_true'] at h
  refine List.nodup_cons.2 ⟨fun hm => ?_, nodupB_spec h.2⟩
  have := h.1 a hm
  rw [show Nat.beq a a = true from Nat.beq_refl a] at this
  cases this

section
variable {cx : Cx} {g : GM} {st : St} {a : Act} {w w' : World}

theorem InjA.at {A : List (List Nat → Option Nat)} (h : InjA A) {i j : Nat} {γ γ' : List Nat → Option Nat} {p q : List Nat} {b : Nat} (hi : A[i]? = some γ) (hj : A[j]? = some γ') (hp : γ p = some b) (hq : γ' q = some b) : i = j ∧ p = q := by
 have hlt : ∀ (i j : Nat) (γ γ' : List Nat → Option Nat) (p q : List Nat), A[i]? = some γ → A[j]? = some γ' → γ p = some b → γ' q = some b → ¬ i < j := fun i j γ γ' p q hi hj hp hq hl => by
  obtain ⟨hi1, e1⟩ := List.getElem?_eq_some_iff.1 hi
  obtain ⟨hj1, e2⟩ := List.getElem?_eq_some_iff.1 hj
  exact List.pairwise_iff_getElem.1 h.1 i j hi1 hj1 hl p q b (by rw [e1]; exact hp) (by rw [e2]; exact hq)
 have e : i = j := by
  rcases Nat.lt_trichotomy i j with hl | e | hl
  ·exact absurd hl (hlt i j γ γ' p q hi hj hp hq)
  ·exact e
  ·exact absurd hl (hlt j i γ' γ q p hj hi hq hp)
 subst e
 rw [hi] at hj
 injection hj with hj
 subst hj
 exact ⟨rfl, h.2 γ (List.mem_of_getElem? hi) p q b hp hq⟩

theorem Did.call {rs : List RV} {up : Mem} {ks F' : List Nat} {M : Nat → Prop} {F : List Nat} {asg : List (List Nat → Option Nat)} {vs : List Value} {v : Value} {e : Eff} {SX : Nat → Prop} (h : Sim cx g st a w) (hw : Fresh st.mem e.new)
  (he : e = ⟨resV (explR rs st.nx).1, keysFrom st.nx (explR rs st.nx).2, up, e.cond⟩) (hk : KeepF F w w') (hF : ∀ b, b ∈ F → ∃ k, k ∈ ks ∧ ∃ p t xs, g.f k p = some b ∧ lk k st.mem = some (.seq t xs)) (hup : up.map Prod.fst = ks) (hu : UpdOK g st.mem SX w' up)
  (hbl : BlkA asg F') (hn : InjA asg) (hnew : ∀ b, b ∈ F' → (w.heap.size ≤ b ∨ M b) ∧ b < w'.heap.size)
  (hM : ∀ b, M b → b ∈ F ∧ ∃ k p t xs, g.f k p = some b ∧ lk k st.mem = some (.seq t xs) ∧ lk k up = some .gone) (hSX : ∀ b, SX b → b < w'.heap.size ∧ (b < cx.w0.heap.size → cx.S b) ∧ ¬ Live g st.mem b ∧ b ∉ F') (hr : RVsR SX w' rs vs asg) (hv : ResOf vs v) : Did cx st a e v w' := by
 obtain ⟨hal, hlaid⟩ := explR_rel st.nx hr
 let chs := (explR rs st.nx).2
 let g' : GM := ⟨fun k => if st.nx ≤ k then (match asg[k - st.nx]? with | some o => o | none => g.f k) else g.f k⟩
 have hnewkey : ∀ j, j < chs.length → lk (st.nx + j) st.mem = none := fun j hj => by
  have hin : (st.nx + j, chs[j]) ∈ e.new := by
   rw [he]
   exact lk_mem (by rw [lk_keysFrom, if_pos (by omega), show st.nx + j - st.nx = j from by omega]; exact List.getElem?_eq_getElem hj)
  exact hw _ hin
 let m' : Mem := up ++ keysFrom st.nx chs ++ st.mem
 have hold : ∀ k, lk k st.mem ≠ none → st.nx ≤ k → chs.length ≤ k - st.nx := fun k hne hle => by
  rcases Nat.lt_or_ge (k - st.nx) chs.length with hlt | hge
  ·exact absurd (by have := hnewkey _ hlt; rwa [show st.nx + (k - st.nx) = k from by omega] at this) hne
  ·exact hge
 have hg'old : ∀ k, lk k st.mem ≠ none → g'.f k = g.f k := fun k hne => by
  show (if st.nx ≤ k then _ else _) = _
  by_cases hle : st.nx ≤ k
  ·rw [if_pos hle, List.getElem?_eq_none (by rw [hal]; exact hold k hne hle)]
  ·rw [if_neg hle]
 have hg'new : ∀ j o, asg[j]? = some o → g'.f (st.nx + j) = o := fun j o hj => by
  show (if st.nx ≤ st.nx + j then _ else _) = _
  rw [if_pos (by omega), show st.nx + j - st.nx = j from by omega, hj]
 have hupold : ∀ k ch, lk k up = some ch → ∃ t xs, lk k st.mem = some (.seq t xs) := fun k ch hk => by
  obtain ⟨t, xs, h1, _⟩ := hu _ (lk_mem hk)
  exact ⟨t, xs, h1⟩
 have hm'new : ∀ j ch, chs[j]? = some ch → lk (st.nx + j) m' = some ch := fun j ch hj => by
  show lk _ (up ++ keysFrom st.nx chs ++ st.mem) = _
  have h1 : lk (st.nx + j) up = none := by
   cases hx : lk (st.nx + j) up with
   | none => rfl
   | some c0 =>
    obtain ⟨t, xs, h1⟩ := hupold _ _ hx
    rw [hnewkey j (List.getElem?_eq_some_iff.1 hj).1] at h1
    cases h1
  rw [lk_append, lk_append, h1, lk_keysFrom, if_pos (by omega), show st.nx + j - st.nx = j from by omega, hj]
  rfl
 have hm'old : ∀ k ch, lk k st.mem = some ch → lk k up = none → lk k m' = some ch := fun k ch hk hup0 => by
  show lk _ (up ++ keysFrom st.nx chs ++ st.mem) = _
  have hkf : lk k (keysFrom st.nx chs) = none := by
   rw [lk_keysFrom]
   by_cases hle : st.nx ≤ k
   ·rw [if_pos hle]; exact List.getElem?_eq_none (hold k (by rw [hk]; simp) hle)
   ·rw [if_neg hle]
  rw [lk_append, lk_append, hup0, hkf, hk]
  rfl
 have hm'inv : ∀ k ch, lk k m' = some ch → lk k st.mem = none → ∃ j, k = st.nx + j ∧ chs[j]? = some ch := fun k ch hk hnone => by
  have hk : lk k (up ++ keysFrom st.nx chs ++ st.mem) = some ch := hk
  have hup0 : lk k up = none := by
   cases hx : lk k up with
   | none => rfl
   | some c0 =>
    obtain ⟨t, xs, h1⟩ := hupold _ _ hx
    rw [h1] at hnone
    cases hnone
  rw [lk_append, lk_append, hup0, lk_keysFrom, hnone] at hk
  by_cases hle : st.nx ≤ k
  ·rw [if_pos hle] at hk
   refine ⟨k - st.nx, by omega, ?_⟩
   cases hx : chs[k - st.nx]? with
   | none => rw [hx] at hk; simp at hk
   | some c0 => rw [hx] at hk; simpa using hk
  ·rw [if_neg hle] at hk; simp at hk
 obtain ⟨hcv, hld⟩ := hlaid g' m' hm'new hg'new
 have hF'asg : ∀ (j : Nat) (γ : List Nat → Option Nat) (p : List Nat) (b : Nat), asg[j]? = some γ → γ p = some b → b ∈ F' := fun j γ p b hj hp => (hbl b).2 ⟨γ, List.mem_of_getElem? hj, p, hp⟩
 -- what a key of the new memory is
 have hcase : ∀ k p ch, lk k m' = some ch → ch.owns p → (∃ c0, lk k st.mem = some c0 ∧ c0.owns p) ∨ (lk k st.mem = none ∧ ∃ j o, k = st.nx + j ∧ asg[j]? = some o) := fun k p ch hk hn => by
  cases ho : lk k st.mem with
  | none =>
   obtain ⟨j, e, hj⟩ := hm'inv k ch hk ho
   obtain ⟨_, o, ho', _⟩ := hld.chunk j ch hj
   exact .inr ⟨rfl, j, o, e, ho'⟩
  | some c0 =>
   left
   refine ⟨c0, rfl, ?_⟩
   cases hx : lk k up with
   | none => rw [hm'old k c0 ho hx] at hk; injection hk with hk; rw [hk]; exact hn
   | some c1 =>
    obtain ⟨t, xs, h1⟩ := hupold _ _ hx
    rw [h1] at ho
    injection ho with ho
    rw [← ho]
    trivial
 have hsafe : ∀ b, SX b → cx.safe g' m' w' b := fun b hb => by
  obtain ⟨h1, h2, h3, h4⟩ := hSX b hb
  refine ⟨h1, h2, ?_⟩
  rintro ⟨k, p, ch, hk', hn', hg'⟩
  rcases hcase k p ch hk' hn' with ⟨c0, ho, hn0⟩ | ⟨_, j, o, e, hj⟩
  ·exact h3 ⟨k, p, c0, ho, hn0, by rw [← hg'old k (by rw [ho]; simp)]; exact hg'⟩
  ·subst e
   rw [hg'new j o hj] at hg'
   exact h4 (hF'asg j o p b hj hg')
 have t : Turn cx g g' st.mem m' w w' F := by
  refine ⟨hk, fun b hb => ?_, hg'old, fun k ch ho => ?_, fun k ch ho hk' => ?_⟩
  ·obtain ⟨k, _, p, t, xs, h1, h2⟩ := hF b hb
   exact ⟨k, p, _, h2, trivial, h1⟩
  ·cases hx : lk k up with
   | none =>
    refine .inl ⟨hm'old k ch ho hx, fun p b hn hgb hbF => ?_⟩
    obtain ⟨k', hk', p', t, xs, h1, h2⟩ := hF b hbF
    have := (h.injp k k' p p' ch _ b ho hn h2 trivial hgb h1).1
    subst this
    rw [← hup] at hk'
    exact lk_none hx hk'
   | some c1 =>
    obtain ⟨t, xs, h1, h2⟩ := hu _ (lk_mem hx)
    simp only at h1 h2
    rw [ho] at h1
    injection h1 with h1
    subst h1
    rcases h2 with h2 | ⟨xs', h2, h3, h4⟩
    ·subst h2
     refine .inr (.inl ?_)
     show lk _ (up ++ keysFrom st.nx chs ++ st.mem) = _
     rw [lk_append, lk_append, hx]
     rfl
    subst h2
    refine .inr (.inr ⟨by simp, .seq t xs', ?_, by simp, fun _ _ => trivial, fun t0 xs0 e => ?_, fun t0 xs0 e => ?_, fun p b arr _ _ hb => hk.sz b arr hb, ?_⟩)
    ·show lk _ (up ++ keysFrom st.nx chs ++ st.mem) = _
     rw [lk_append, lk_append, hx]
     rfl
    ·obtain ⟨e1, e2⟩ := isSeq_seq e
     subst e1
     subst e2
     exact ⟨xs, .inl rfl, h3.1⟩
    ·injection e with e1 e2
     subst e1
     have e2 := eq_of_heq e2
     subst e2
     exact ⟨xs, rfl, h3⟩
    ·rw [hg'old k (by rw [ho]; simp)]
     unfold ChR
     cases hgk : g.f k [] with
     | none => rw [hgk] at h4; exact h4
     | some b =>
      rw [hgk] at h4
      obtain ⟨arr, k1, k2⟩ := h4
      exact ⟨arr, k1, k2.keep (fun b hb => ⟨hsafe b hb, rfl⟩) fun _ _ _ => rfl⟩
  ·obtain ⟨j, e, hj⟩ := hm'inv k ch hk' ho
   subst e
   obtain ⟨hng, o, hoj, hch⟩ := hld.chunk j ch hj
   refine ⟨?_, fun p b _ hgb => ?_⟩
   ·rw [hg'new j o hoj]
    exact ChR.stays (Stays.mono hsafe) (fun _ _ _ _ => rfl) hch
   ·rw [hg'new j o hoj] at hgb
    have hbF := hF'asg j o p b hoj hgb
    have hfin : (w.heap.size ≤ b ∨ b ∈ F) ∧ ∀ k' p' c0 ch', lk k' st.mem = some c0 → c0.owns p' → g.f k' p' = some b → lk k' m' = some ch' → ch' ≠ .gone → False := by
     rcases (hnew b hbF).1 with hge | hMb
     ·exact ⟨.inl hge, fun k' p' c0 ch' ho2 hn0 hg2 _ _ => by have := h.lt k' p' c0 b ho2 hn0 hg2; omega⟩
     ·obtain ⟨hbF2, km, pm, tm, xm, q1, q2, q3⟩ := hM b hMb
      refine ⟨.inr hbF2, fun k' p' c0 ch' ho2 hn0 hg2 hk2 hn2 => ?_⟩
      have := (h.injp k' km p' pm c0 _ b ho2 hn0 q2 trivial hg2 q1).1
      subst this
      have hk2 : lk k' (up ++ keysFrom st.nx chs ++ st.mem) = some ch' := hk2
      rw [lk_append, lk_append, q3] at hk2
      have hk2 : some Chunk.gone = some ch' := hk2
      injection hk2 with hk2
      exact hn2 hk2.symm
    refine ⟨hfin.1, (hnew b hbF).2, fun k' p' ch' hk2 hn2 hg2 => ?_⟩
    rcases hcase k' p' ch' hk2 hn2 with ⟨c0, ho2, hn0⟩ | ⟨_, j2, o2, e2, hj2⟩
    ·exact (hfin.2 k' p' c0 ch' ho2 hn0 (by rw [← hg'old k' (by rw [ho2]; simp)]; exact hg2) hk2 (Chunk.owns_ne hn2)).elim
    ·subst e2
     rw [hg'new j2 o2 hj2] at hg2
     obtain ⟨e1, e2⟩ := hn.at hj2 hoj hg2 hgb
     exact ⟨by rw [e1], e2⟩
 have hs := h.turn (nx' := st.nx + (keysFrom st.nx chs).length) t
 refine ⟨g', ?_, ?_⟩
 ·rw [he]; exact hs
 ·rw [he]
  exact VR.stays (Stays.mono hsafe) (resV_VR hcv hv)

theorem iCall_sound {ms : List Mode} {rs : List RV} {outs : List TD} {f : FuncId} {vs : List IVal} {vals : List Value} {e : Eff} (h : Sim cx g st a w) (hw : Fresh st.mem e.new) (he : iCall cx.P st.mem st.nx ms rs outs f vs = some e) (hc : AllP e.cond)
  (hv : All2 (VR g st.mem (cx.safe g st.mem w) w) vs vals) : CanCall cx.P f ∧ Calls cx.P f vals.toArray w fun en w' => ∃ v, en = .returned v ∧ Did cx st a e v w' := by
 unfold iCall at he
 split at he
 ·rename_i ks up hks hup
  split at he
  ·rename_i as has
   cases hb : (ks.isEmpty && noOwn ms) with
   | false => rw [hb] at he; cases he
   | true =>
    rw [hb] at he
    simp only [cond_true] at he
    simp only [Bool.and_eq_true, List.isEmpty_iff] at hb
    injection he with he
    obtain ⟨hk0, hno⟩ := hb
    subst hk0
    have hcc : CallOK cx.P f as rs outs := by rw [← he] at hc; exact hc.1
    obtain ⟨Fs, k1, k2, k5, k6⟩ := args_rel (mA := []) (mB := []) (m2 := []) (S2 := cx.safe g st.mem w) h.mem (fun _ h => h) ReadM.nil (.inl rfl) (fun c cs b hl => by simp [lk_nil] at hl) (.inr hno) has hks hup hv
    have hF0 : ∀ γ, γ ∈ Fs.flatten → ∀ p, γ p = none := fun γ hγ p => by
     cases hp : γ p with
     | none => rfl
     | some b => obtain ⟨k, hk, _⟩ := k2.blk hγ hp; simp at hk
    have hB : BlkA Fs.flatten [] := fun b => ⟨fun h => by simp at h, fun ⟨γ, hγ, p, hp⟩ => by rw [hF0 γ hγ p] at hp; cases hp⟩
    refine ⟨hcc.1, (hcc.2 w (cx.safe g st.mem w) vals Fs [] hB (k2.inj h.memI (by simp)) (fun b hb => ⟨hb.1, by simp⟩) (by simp) k1 h.glob).mono ?_⟩
    rintro en w' ⟨v, A', F', e1, hbl, hn, ⟨us, hrv, hus⟩, hnew, hkeep, houts⟩
    refine ⟨v, e1, ?_⟩
    obtain ⟨u1, u2⟩ := k5 w' _ (Behind (cx.safe g st.mem w) w w' F') hkeep.sz (.inr (.inl hno)) houts
    refine Did.call (SX := Behind (cx.safe g st.mem w) w w' F') (ks := []) (up := up) h hw (by rw [← he]) hkeep (by simp) u1 u2 hbl hn hnew (fun b hb => by obtain ⟨γ, hγ, p, hp⟩ := MvB.sub hb; rw [hF0 γ hγ p] at hp; cases hp) (fun b hb => ?_) hrv hus
    obtain ⟨h1, h2, h3⟩ := hb
    refine ⟨h1, fun hlt => ?_, ?_, h3⟩
    ·exact (h2 (Nat.lt_of_lt_of_le hlt h.keep.size)).2.1 hlt
    ·rintro ⟨k, p, ch, q1, q2, q3⟩
     exact (h2 (h.lt k p ch b q1 q2 q3)).2.2 ⟨k, p, ch, q1, q2, q3⟩
  ·cases hnd : nodupB ks with
   | false => rw [hnd] at he; cases he
   | true =>
    rw [hnd] at he
    simp only [cond_true] at he
    have hknd := nodupB_spec hnd
    cases hb : (rs.all RV.okAlone && modesFlat ms) with
    | true =>
     rw [hb] at he
     simp only [cond_true] at he
     simp only [Bool.and_eq_true] at hb
     obtain ⟨halone, hflat⟩ := hb
     split at he
     ·rename_i as has
      injection he with he
      have hcc : CallOK cx.P f as rs outs := by rw [← he] at hc; exact hc.1
      -- the blocks that the call does not write
      let S2 : Nat → Prop := fun b => b < w.heap.size ∧ ∀ c p, c ∈ ks → g.f c p = some b → ∀ t xs, lk c st.mem = some (.seq t xs) → False
      have hlkg : ∀ (k : Nat) (l : List Nat), k ∉ l → lk k ((l.map fun k => (k, Chunk.gone)) ++ st.mem) = lk k st.mem := by
       intro k l
       induction l with
       | nil => intro _; rfl
       | cons q l ih =>
        intro hk
        simp only [List.mem_cons, not_or] at hk
        simp only [List.map_cons, List.cons_append]
        rw [lk_cons, if_neg hk.1]
        exact ih hk.2
      have hlkg' : ∀ (k : Nat) (l : List Nat), k ∈ l → lk k ((l.map fun k => (k, Chunk.gone)) ++ st.mem) = some .gone := by
       intro k l
       induction l with
       | nil => intro hk; simp at hk
       | cons q l ih =>
        intro hk
        simp only [List.map_cons, List.cons_append]
        rw [lk_cons]
        by_cases e : k = q
        ·rw [if_pos e]
        ·rw [if_neg e]
         exact ih (by simpa [e] using hk)
      have hR : ReadM g st.mem ((ks.map fun k => (k, Chunk.gone)) ++ st.mem) S2 w := by
       intro k t xs hl
       by_cases hk : k ∈ ks
       ·rw [hlkg' k ks hk] at hl; cases hl
       ·rw [hlkg k ks hk] at hl
        refine ⟨hl, ?_⟩
        have hap : ∀ p b, g.f k p = some b → S2 b := fun p b hg => ⟨h.lt k p _ b hl trivial hg, fun c q hc hgc t' xs' hl' => by
         have := (h.injp k c p q _ _ b hl trivial hl' trivial hg hgc).1
         subst this
         exact hk hc⟩
        refine ⟨hap, ?_⟩
        have hch := h.mem k _ hl
        unfold ChR at hch
        cases hg : g.f k [] with
        | none => rw [show g k = none from hg]; rw [hg] at hch; exact hch
        | some b =>
         rw [show g k = some b from hg]
         rw [hg] at hch
         obtain ⟨arr, q1, q2⟩ := hch
         exact ⟨arr, q1, q2.keep (fun b' hb' => ⟨⟨hb'.1, fun c p hc hgc t' xs' hl' => hb'.2.2 ⟨c, p, _, hl', trivial, hgc⟩⟩, rfl⟩) fun _ _ _ => rfl⟩
      obtain ⟨Fs, k1, k2, k5, k6⟩ := args_rel (mA := st.mem) (mB := st.mem) (m2 := (ks.map fun k => (k, Chunk.gone)) ++ st.mem) (S2 := S2) h.mem (fun b hb => ⟨hb.1, fun c p hc hgc t' xs' hl' => hb.2.2 ⟨c, p, _, hl', trivial, hgc⟩⟩) hR (.inr rfl)
       (fun c cs b hl hg => ⟨h.live_lt hl (by simp) hg, fun c' p' hc' hgc' t' xs' hl' => by
        have := (h.injp c c' [] p' _ _ b hl trivial hl' trivial hg hgc').1
        subst this
        rw [hl] at hl'
        cases hl'⟩) (.inl rfl) has hks hup hv
      have hFn : InjA Fs.flatten := k2.inj h.memI hknd
      obtain ⟨F, hB⟩ := blkA_exists (n := w.heap.size) (A := Fs.flatten) (fun γ hγ p b hp => by
       obtain ⟨k, _, p', t, xs, q1, q2⟩ := k2.blk hγ hp
       exact h.lt k p' _ b q2 trivial q1)
      have hFk : ∀ b, b ∈ F → ∃ k, k ∈ ks ∧ ∃ p t xs, g.f k p = some b ∧ lk k st.mem = some (.seq t xs) := fun b hb => by
       obtain ⟨γ, hγ, p, hp⟩ := (hB b).1 hb
       exact k2.blk hγ hp
      refine ⟨hcc.1, (hcc.2 w S2 vals Fs F hB hFn (fun b hb => ⟨hb.1, fun hbF => ?_⟩) (fun b hbF => ?_) k1 (Glob.mono (fun b hb => ⟨⟨hb.1, fun c p _ hgc t' xs' hl' => hb.2.2 ⟨c, p, _, hl', trivial, hgc⟩⟩, rfl⟩) h.glob)).mono ?_⟩
      ·obtain ⟨c, h1, p, t, xs, h2, h3⟩ := hFk b hbF
       exact hb.2 c p h1 h2 t xs h3
      ·obtain ⟨c, h1, p, t, xs, h2, h3⟩ := hFk b hbF
       exact h.lt c p _ b h3 trivial h2
      rintro en w' ⟨v, A', F', e1, hbl, hn, ⟨us, hrv, hus⟩, hnew, hkeep, houts⟩
      refine ⟨v, e1, ?_⟩
      obtain ⟨u1, u2⟩ := k5 w' _ (fun b => b < w'.heap.size ∧ (b < cx.w0.heap.size → cx.S b) ∧ ¬ Live g st.mem b ∧ b ∉ F') hkeep.sz (.inl hflat) houts
      exact Did.call (SX := fun b => b < w'.heap.size ∧ (b < cx.w0.heap.size → cx.S b) ∧ ¬ Live g st.mem b ∧ b ∉ F') (ks := ks) (up := up) h hw (by rw [← he]) hkeep hFk u1 u2 hbl hn hnew (fun b hb => ⟨(hB b).2 (MvB.sub hb), by
       obtain ⟨k, p, t, xs, q1, q2, q3⟩ := k6 b hb
       exact ⟨k, p, t, xs, q1, q2, lk_ofmem (by rw [u1]; exact hknd) q3⟩⟩) (fun b hb => hb) (RVsR.alone halone hrv) hus
     ·cases he
    | false =>
     rw [hb] at he
     simp only [cond_false] at he
     split at he
     ·rename_i as has
      injection he with he
      have hcc : CallOK cx.P f as rs outs := by rw [← he] at hc; exact hc.1
      obtain ⟨Fs, k1, k2, k5, k6⟩ := args_rel (mA := st.mem) (mB := []) (m2 := []) (S2 := cx.safe g st.mem w) h.mem (fun _ h => h) ReadM.nil (.inl rfl) (fun c cs b hl => by simp [lk_nil] at hl) (.inl rfl) has hks hup hv
      have hFn : InjA Fs.flatten := k2.inj h.memI hknd
      obtain ⟨F, hB⟩ := blkA_exists (n := w.heap.size) (A := Fs.flatten) (fun γ hγ p b hp => by
       obtain ⟨k, _, p', t, xs, q1, q2⟩ := k2.blk hγ hp
       exact h.lt k p' _ b q2 trivial q1)
      have hFk : ∀ b, b ∈ F → ∃ k, k ∈ ks ∧ ∃ p t xs, g.f k p = some b ∧ lk k st.mem = some (.seq t xs) := fun b hb => by
       obtain ⟨γ, hγ, p, hp⟩ := (hB b).1 hb
       exact k2.blk hγ hp
      refine ⟨hcc.1, (hcc.2 w (cx.safe g st.mem w) vals Fs F hB hFn (fun b hb => ⟨hb.1, fun hbF => ?_⟩) (fun b hbF => ?_) k1 h.glob).mono ?_⟩
      ·obtain ⟨c, h1, p, t, xs, h2, h3⟩ := hFk b hbF
       exact hb.2.2 ⟨c, p, _, h3, trivial, h2⟩
      ·obtain ⟨c, h1, p, t, xs, h2, h3⟩ := hFk b hbF
       exact h.lt c p _ b h3 trivial h2
      rintro en w' ⟨v, A', F', e1, hbl, hn, ⟨us, hrv, hus⟩, hnew, hkeep, houts⟩
      refine ⟨v, e1, ?_⟩
      obtain ⟨u1, u2⟩ := k5 w' _ (Behind (cx.safe g st.mem w) w w' F') hkeep.sz (.inr (.inr fun _ h => h)) houts
      refine Did.call (SX := Behind (cx.safe g st.mem w) w w' F') (ks := ks) (up := up) h hw (by rw [← he]) hkeep hFk u1 u2 hbl hn hnew (fun b hb => ⟨(hB b).2 (MvB.sub hb), by
       obtain ⟨k, p, t, xs, q1, q2, q3⟩ := k6 b hb
       exact ⟨k, p, t, xs, q1, q2, lk_ofmem (by rw [u1]; exact hknd) q3⟩⟩) (fun b hb => ?_) hrv hus
      obtain ⟨h1, h2, h3⟩ := hb
      refine ⟨h1, fun hlt => ?_, ?_, h3⟩
      ·exact (h2 (Nat.lt_of_lt_of_le hlt h.keep.size)).2.1 hlt
      ·rintro ⟨k, p, ch, q1, q2, q3⟩
       exact (h2 (h.lt k p ch b q1 q2 q3)).2.2 ⟨k, p, ch, q1, q2, q3⟩
     ·cases he
 ·cases he

end
end Go.Ide


/-
 More operations: floats; bytes and strings; what is appended out of a string; slices with a third bound.
-/
namespace Go.Ide

def fnan : FloatKind → Nat
 | .f32 => 2143289344
 | .f64 => 9221120237041090560

def fop (op : BinOp) (k : FloatKind) (x y : Nat) : Nat :=
 match floatBits op k x y with
 | some r => fcanon k r
 | none => fnan k

def fneg (k : FloatKind) (x : Nat) : Nat := fcanon k (Op.negFloat k x)
def fofint (k : FloatKind) (n : Int) : Nat := fcanon k (k.nearest n)

def feq (k : FloatKind) (x y : Nat) : Bool := k.format.order x y == some .eq
def flt (k : FloatKind) (x y : Nat) : Bool := k.format.order x y == some .lt
def fle (k : FloatKind) (x y : Nat) : Bool := k.format.order x y == some .lt || k.format.order x y == some .eq
def fgt (k : FloatKind) (x y : Nat) : Bool := k.format.order x y == some .gt
def fge (k : FloatKind) (x y : Nat) : Bool := k.format.order x y == some .gt || k.format.order x y == some .eq

def fconvOK (s k : FloatKind) (x : Nat) : Bool :=
 if s = k then true else match s.decode x with
 | .number sg m e => !(k.decode (k.encode (.number sg m e))).isInfinity
 | _ => true
def fconv (s k : FloatKind) (x : Nat) : Nat :=
 if s = k then x else match s.decode x with
 | .nan _ _ => fnan k
 | .infinity sg => fcanon k (k.encode (.infinity sg))
 | .number sg m e => fcanon k (k.encode (.number sg m e))

theorem fc32 (b : Nat) : fcanon .f32 b = if b % 2147483648 > 2139095040 then 2143289344 else b := rfl
theorem fc64 (b : Nat) : fcanon .f64 b = if b % 9223372036854775808 > 9218868437227405312 then 9221120237041090560 else b := rfl

theorem canon_or (k : FloatKind) (b : Nat) : fcanon k b = b ∨ ∃ s t s' t', k.format.read b = .nan s t ∧ k.format.read (fcanon k b) = .nan s' t' := by
 cases k
 ·rw [fc32]
  by_cases h : b % 2147483648 > 2139095040
  ·rw [if_pos h]
   right
   refine ⟨(b / 2147483648 % 2 == 1), b % 2147483648 - 2139095040, _, _, ?_, rfl⟩
   have e1 : FloatKind.f32.format.signWeight = 2147483648 := by decide
   have e2 : FloatKind.f32.format.binade = 8388608 := by decide
   have e3 : FloatKind.f32.format.infRung = 2139095040 := by decide
   unfold Ieee.Format.read
   simp only [e1, e2, e3]
   rw [if_neg (by omega), if_neg (by omega), if_neg (by omega)]
  ·rw [if_neg h]; exact .inl rfl
 ·rw [fc64]
  by_cases h : b % 9223372036854775808 > 9218868437227405312
  ·rw [if_pos h]
   right
   refine ⟨(b / 9223372036854775808 % 2 == 1), b % 9223372036854775808 - 9218868437227405312, _, _, ?_, rfl⟩
   have e1 : FloatKind.f64.format.signWeight = 9223372036854775808 := by decide
   have e2 : FloatKind.f64.format.binade = 4503599627370496 := by decide
   have e3 : FloatKind.f64.format.infRung = 9218868437227405312 := by decide
   unfold Ieee.Format.read
   simp only [e1, e2, e3]
   rw [if_neg (by omega), if_neg (by omega), if_neg (by omega)]
  ·rw [if_neg h]; exact .inl rfl

theorem sum_nan1 {s : Bool} {t : Nat} {d : Ieee.Datum} : Ieee.Datum.sum (.nan s t) d = none := by cases d <;> rfl
theorem sum_nan2 {s : Bool} {t : Nat} {d : Ieee.Datum} : Ieee.Datum.sum d (.nan s t) = none := by cases d <;> rfl
theorem prod_nan1 {s : Bool} {t : Nat} {d : Ieee.Datum} : Ieee.Datum.product (.nan s t) d = none := by cases d <;> rfl
theorem prod_nan2 {s : Bool} {t : Nat} {d : Ieee.Datum} : Ieee.Datum.product d (.nan s t) = none := by cases d <;> rfl
theorem quo_nan1 {n : Nat} {s : Bool} {t : Nat} {d : Ieee.Datum} : Ieee.Datum.quotient n (.nan s t) d = none := by cases d <;> rfl
theorem quo_nan2 {n : Nat} {s : Bool} {t : Nat} {d : Ieee.Datum} : Ieee.Datum.quotient n d (.nan s t) = none := by cases d <;> rfl
theorem ord_nan1 {s : Bool} {t : Nat} {d : Ieee.Datum} : Ieee.Datum.order (.nan s t) d = none := by cases d <;> rfl
theorem ord_nan2 {s : Bool} {t : Nat} {d : Ieee.Datum} : Ieee.Datum.order d (.nan s t) = none := by cases d <;> rfl

theorem floatBits_canon (op : BinOp) (k : FloatKind) (x y : Nat) : floatBits op k (fcanon k x) (fcanon k y) = floatBits op k x y := by
 have h1 : ∀ x y, floatBits op k (fcanon k x) y = floatBits op k x y := by
  intro x y
  rcases canon_or k x with h | ⟨s, t, s', t', q1, q2⟩
  ·rw [h]
  ·unfold floatBits
   cases op <;> simp only [Ieee.Format.add, Ieee.Format.sub, Ieee.Format.mul, Ieee.Format.div, q1, q2, sum_nan1, prod_nan1, quo_nan1]
 have h2 : ∀ x y, floatBits op k x (fcanon k y) = floatBits op k x y := by
  intro x y
  rcases canon_or k y with h | ⟨s, t, s', t', q1, q2⟩
  ·rw [h]
  ·unfold floatBits
   cases op <;> simp only [Ieee.Format.add, Ieee.Format.sub, Ieee.Format.mul, Ieee.Format.div, q1, q2, sum_nan2, prod_nan2, quo_nan2, Ieee.Datum.opposite]
 rw [h1, h2]

theorem order_canon (k : FloatKind) (x y : Nat) : k.format.order (fcanon k x) (fcanon k y) = k.format.order x y := by
 have h1 : ∀ x y, k.format.order (fcanon k x) y = k.format.order x y := by
  intro x y
  rcases canon_or k x with h | ⟨s, t, s', t', q1, q2⟩
  ·rw [h]
  ·unfold Ieee.Format.order; rw [q1, q2, ord_nan1, ord_nan1]
 have h2 : ∀ x y, k.format.order x (fcanon k y) = k.format.order x y := by
  intro x y
  rcases canon_or k y with h | ⟨s, t, s', t', q1, q2⟩
  ·rw [h]
  ·unfold Ieee.Format.order; rw [q1, q2, ord_nan2, ord_nan2]
 rw [h1, h2]

theorem neg_canon (k : FloatKind) (b : Nat) : fcanon k (Op.negFloat k (fcanon k b)) = fcanon k (Op.negFloat k b) := by
 cases k
 ·have e : ∀ b, Op.negFloat .f32 b = b ^^^ 2147483648 := fun b => rfl
  have hm : ∀ b, (b ^^^ 2147483648) % 2147483648 = b % 2147483648 := fun b => by
   have := Nat.xor_mod_two_pow (a := b) (b := 2147483648) (n := 31)
   simpa using this
  simp only [e]
  by_cases h : b % 2147483648 > 2139095040
  ·have h1 : fcanon .f32 b = 2143289344 := by rw [fc32, if_pos h]
   have h2 : fcanon .f32 (b ^^^ 2147483648) = 2143289344 := by rw [fc32, hm, if_pos h]
   rw [h1, h2]; decide
  ·have h1 : fcanon .f32 b = b := by rw [fc32, if_neg h]
   rw [h1]
 ·have e : ∀ b, Op.negFloat .f64 b = b ^^^ 9223372036854775808 := fun b => rfl
  have hm : ∀ b, (b ^^^ 9223372036854775808) % 9223372036854775808 = b % 9223372036854775808 := fun b => by
   have := Nat.xor_mod_two_pow (a := b) (b := 9223372036854775808) (n := 63)
   simpa using this
  simp only [e]
  by_cases h : b % 9223372036854775808 > 9218868437227405312
  ·have h1 : fcanon .f64 b = 9221120237041090560 := by rw [fc64, if_pos h]
   have h2 : fcanon .f64 (b ^^^ 9223372036854775808) = 9221120237041090560 := by rw [fc64, hm, if_pos h]
   rw [h1, h2]; decide
  ·have h1 : fcanon .f64 b = b := by rw [fc64, if_neg h]
   rw [h1]

theorem cut_nan (k : FloatKind) (x y t : Nat) : fcanon k (Question.cut (.nanBits k x y) t) = fnan k := by
 cases k
 ·have e : Question.cut (.nanBits .f32 x y) t = (t % 2) * 2147483648 + 2139095040 + 1 + (t / 2) % 8388607 := rfl
  have h1 := Nat.mod_lt t (show 0 < 2 by decide)
  have h2 := Nat.mod_lt (t / 2) (show 0 < 8388607 by decide)
  rw [e, fc32]
  generalize t % 2 = p at h1
  generalize t / 2 % 8388607 = q at h2
  rw [if_pos (by omega)]; rfl
 ·have e : Question.cut (.nanBits .f64 x y) t = (t % 2) * 9223372036854775808 + 9218868437227405312 + 1 + (t / 2) % 4503599627370495 := rfl
  have h1 := Nat.mod_lt t (show 0 < 2 by decide)
  have h2 := Nat.mod_lt (t / 2) (show 0 < 4503599627370495 by decide)
  rw [e, fc64]
  generalize t % 2 = p at h1
  generalize t / 2 % 4503599627370495 = q at h2
  rw [if_pos (by omega)]; rfl
theorem cut_nanc (k : FloatKind) (x t : Nat) : fcanon k (Question.cut (.nanConv k x) t) = fnan k := by
 cases k
 ·have e : Question.cut (.nanConv .f32 x) t = (t % 2) * 2147483648 + 2139095040 + 1 + (t / 2) % 8388607 := rfl
  have h1 := Nat.mod_lt t (show 0 < 2 by decide)
  have h2 := Nat.mod_lt (t / 2) (show 0 < 8388607 by decide)
  rw [e, fc32]
  generalize t % 2 = p at h1
  generalize t / 2 % 8388607 = q at h2
  rw [if_pos (by omega)]; rfl
 ·have e : Question.cut (.nanConv .f64 x) t = (t % 2) * 9223372036854775808 + 9218868437227405312 + 1 + (t / 2) % 4503599627370495 := rfl
  have h1 := Nat.mod_lt t (show 0 < 2 by decide)
  have h2 := Nat.mod_lt (t / 2) (show 0 < 4503599627370495 by decide)
  rw [e, fc64]
  generalize t % 2 = p at h1
  generalize t / 2 % 4503599627370495 = q at h2
  rw [if_pos (by omega)]; rfl

theorem fconv_canon (s k : FloatKind) (b : Nat) (h : s ≠ k) : fconvOK s k (fcanon s b) = fconvOK s k b ∧ fconv s k (fcanon s b) = fconv s k b := by
 rcases canon_or s b with e | ⟨sg, t, sg', t', h1, h2⟩
 ·rw [e]; exact ⟨rfl, rfl⟩
 ·have h1 : s.decode b = .nan sg t := h1
  have h2 : s.decode (fcanon s b) = .nan sg' t' := h2
  unfold fconvOK fconv
  rw [if_neg h, if_neg h, if_neg h, if_neg h, h1, h2]
  exact ⟨rfl, rfl⟩

theorem up_aux (q kk : Nat) (h1 : q ≤ 1149) (h2 : kk < 9007199254740992) : min (q * 4503599627370496 + kk) 9218868437227405312 < 9218868437227405312 := by omega

theorem fconv_up (x : Nat) : fconvOK .f32 .f64 x = true := by
 unfold fconvOK
 rw [if_neg (by decide)]
 split
 ·rename_i sg m e hd
  have hd : Ieee.single.read x = .number sg m e := hd
  have hm : m < 16777216 ∧ -149 ≤ e ∧ e ≤ 104 := by
   have e1 : Ieee.single.signWeight = 2147483648 := by decide
   have e2 : Ieee.single.binade = 8388608 := by decide
   have e3 : Ieee.single.infRung = 2139095040 := by decide
   have e4 : Ieee.single.leastPlace = -149 := by decide
   unfold Ieee.Format.read at hd
   simp only [e1, e2, e3, e4] at hd
   split at hd
   ·injection hd with _ h2 h3; omega
   ·split at hd
    ·injection hd with _ h2 h3
     have := Nat.mod_lt (x % 2147483648) (show 0 < 8388608 by decide)
     have h4 : x % 2147483648 / 8388608 < 255 := by omega
     omega
    ·split at hd <;> cases hd
  have hlast : (FloatKind.f64.decode (FloatKind.f64.encode (.number sg m e))).isInfinity = false := by
   have e1 : Ieee.double.signWeight = 9223372036854775808 := by decide
   have e2 : Ieee.double.binade = 4503599627370496 := by decide
   have e3 : Ieee.double.infRung = 9218868437227405312 := by decide
   have e4 : Ieee.double.leastPlace = -1074 := by decide
   have hw : ∃ r, r < 9218868437227405312 ∧ FloatKind.f64.encode (.number sg m e) = Ieee.double.word sg r := by
    show ∃ r, _ ∧ Ieee.double.nearest sg m e = _
    unfold Ieee.Format.nearest
    by_cases h0 : m = 0
    ·rw [if_pos h0]; exact ⟨0, by decide, rfl⟩
    ·rw [if_neg h0]
     refine ⟨_, ?_, rfl⟩
     have hl : m.log2 ≤ 23 := by
      have : m.log2 < 24 := (Nat.log2_lt h0).2 (by omega)
      omega
     have hfb : Ieee.double.fractionBits = 52 := rfl
     have hpl : max (e + (m.log2 : Int) - ((Ieee.double.fractionBits : Nat) : Int)) Ieee.double.leastPlace = e + (m.log2 : Int) - 52 := by
      rw [e4, hfb]; omega
     rw [hpl, e2, e3, e4]
     have hdrop : (e + (m.log2 : Int) - 52 - e).toNat = 0 := by omega
     have hup : (e - (e + (m.log2 : Int) - 52)).toNat = 52 - m.log2 := by omega
     rw [hdrop, hup]
     have hcut : Ieee.Toward.even.cut sg (m <<< (52 - m.log2)) 0 = m <<< (52 - m.log2) := by
      unfold Ieee.Toward.cut
      simp [Nat.mod_one]
     rw [hcut]
     have hk : m <<< (52 - m.log2) < 9007199254740992 := by
      rw [Nat.shiftLeft_eq]
      have h2 : m < 2 ^ (m.log2 + 1) := Nat.lt_log2_self
      have h3 : m * 2 ^ (52 - m.log2) < 2 ^ (m.log2 + 1) * 2 ^ (52 - m.log2) := (Nat.mul_lt_mul_right (Nat.two_pow_pos _)).2 h2
      rw [← Nat.pow_add, show m.log2 + 1 + (52 - m.log2) = 53 from by omega] at h3
      exact h3
     exact up_aux _ _ (by omega) hk
   obtain ⟨r, hr, hw⟩ := hw
   rw [hw]
   show (Ieee.double.read (Ieee.double.word sg r)).isInfinity = false
   have hmod : Ieee.double.word sg r % 9223372036854775808 = r := by
    unfold Ieee.Format.word
    cases sg with
    | true => simp only [if_true, e1]; omega
    | false => simp only [Bool.false_eq_true, if_false]; omega
   unfold Ieee.Format.read
   simp only [e1, e2, e3, hmod]
   split
   ·rfl
   ·first | rfl | (rw [if_pos hr]; rfl)
  rw [hlast]; rfl
 ·rfl

-- ---------------------------------------------------------------- the operations

def isArith : BinOp → Bool
 | .add => true
 | .sub => true
 | .mul => true
 | .quo => true
 | _ => false

def iFCmp (op : BinOp) (k : FloatKind) (x y : Nat) : Option Eff :=
 match op with
 | .eql => pureE (.one (.dat .bool (feq k x y)))
 | .neq => pureE (.one (.dat .bool (!feq k x y)))
 | .lss => pureE (.one (.dat .bool (flt k x y)))
 | .leq => pureE (.one (.dat .bool (fle k x y)))
 | .gtr => pureE (.one (.dat .bool (fgt k x y)))
 | .geq => pureE (.one (.dat .bool (fge k x y)))
 | _ => none

def eqFs (P : Program) (cs ds : List ICell) : List Field → Option Bool
 | [] => some true
 | f :: r => match P.underlying f.type, cs[f.offset]?, ds[f.offset]?, eqFs P cs ds r with
  | some (.int _), some (.dat (.int k) a), some (.dat (.int k') b), some e => bif f.name == "_" then none else if k = k' then some ((a == b) && e) else none
  | _, _, _, _ => none

def iStructEq (P : Program) (T : TypeId) (op : BinOp) (cs ds : List ICell) : Option Eff :=
 match P.underlying T with
 | some (.struct fs) => bif P.stoodInHeld T || P.eqGuardType P.depth T then none else
  (match op, eqFs P cs ds fs.toList with
  | .eql, some b => pureE (.one (.dat .bool b))
  | .neq, some b => pureE (.one (.dat .bool (!b)))
  | _, _ => none)
 | _ => none

def iBinF (P : Program) (T : TypeId) (op : BinOp) (x y : IVal) : Option Eff :=
 match x, y with
 | .one (.dat (.flt k) a), .one (.dat (.flt k') b) => if k = k' then (if isArith op then pureE (.one (.dat (.flt k) (fop op k a b))) else iFCmp op k a b) else none
 | .agg cs, .agg ds => iStructEq P T op cs ds
 | x, y => iBin P T op x y

def iUnF (op : UnOp) (x : IVal) : Option Eff :=
 match op, x with
 | .neg, .one (.dat (.flt k) b) => pureE (.one (.dat (.flt k) (fneg k b)))
 | op, x => iUn op x

def isByteSlice (P : Program) (T : TypeId) : Bool :=
 match P.underlying T with
 | some (.slice e) => (match P.underlying e with
  | some (.int .u8) => true
  | _ => false)
 | _ => false

def bytesI (s : List UInt8) : List Int := s.map fun b => ((b.toNat : Nat) : Int)
def bytesO (l : List Int) : List UInt8 := l.map fun n => UInt8.ofNat n.toNat

def iConvertM (P : Program) (m : Mem) (nx : Nat) (T U : TypeId) (x : IVal) : Option Eff :=
 match P.underlying T, P.underlying U, x with
 | some _, some (.float k), .one (.dat (.flt s) b) => pureC (.one (.dat (.flt k) (fconv s k b))) [fconvOK s k b = true]
 | some _, some (.float k), .one (.dat (.int _) n) => pureE (.one (.dat (.flt k) (fofint k n)))
 | some .string, some (.slice _), .one (.dat .str s) => bif isByteSlice P U then some ⟨.one (.all nx), [(nx, .seq (.int .u8) (bytesI s))], [], [List.length s ≤ appMax]⟩ else none
 | some (.slice _), some (.slice _), .one (.all c) => bif Nat.beq T U && isByteSlice P T then (match lk c m with
   | some (.seq t xs) => if t = .int .u8 then some ⟨.one (.all c), [], [(c, .seq t xs)], [0 < List.length xs]⟩ else none
   | _ => none) else none
 | some (.slice _), some .string, x => bif isByteSlice P T && srcOK m x then (match vdat m (.sl (.int .u8)) x with
   | some l => pureE (.one (.dat .str (bytesO l)))
   | none => none) else none
 | _, _, x => iConvert P T U x

def iAppendS (P : Program) (m : Mem) (nx : Nat) (T T' : TypeId) (s x : IVal) : Option Eff :=
 match P.underlying T, P.underlying T', x with
 | some (.slice e), some .string, .one (.dat .str y) => (match P.info? e with
  | some i => bif (isByteSlice P T && Nat.beq i.size 1) && (Nat.ble i.bytes 32768 && i.zero.isSome) && (i.zero.map fun z => Nat.beq z.cells.size 1).getD false then
    (match appBase m (.int .u8) s with
    | some (xs, up) => some ⟨.one (.all nx), [(nx, .seq (.int .u8) (xs ++ bytesI y))], up, [List.length xs + List.length y ≤ appMax]⟩
    | none => none) else none
  | none => none)
 | _, _, _ => none

def iSliceM (P : Program) (T : TypeId) (x : IVal) (lo hi mx : Option IVal) : Option Eff :=
 match P.underlying T, x with
 | some (.slice e), .one (.dat (.sl t) xs) => (match loI lo, hi, mx with
  | some l, some (.one (.dat (.int _) h)), some (.one (.dat (.int _) q)) => bif sizeT P e == some t.size then pureC (.one (.dat (.sl t) (cut xs l h))) [(0 : Int) ≤ l ∧ l ≤ h ∧ h ≤ q ∧ q ≤ ((List.length xs : Nat) : Int)] else none
  | _, _, _ => none)
 | _, _ => none

section
variable {P : Program} {g : GM} {m : Mem} {S : Nat → Prop} {cx : Cx} {st : St} {a : Act} {w : World}

theorem dat_flt {k : FloatKind} {n : Nat} {v : Value} (h : CR g m S w (.dat (.flt k) n) v) : ∃ b, v = .float k b ∧ fcanon k b = n := by
 obtain ⟨b, e, hb⟩ := (h : ∃ b, [v] = [Value.float k b] ∧ fcanon k b = n)
 exact ⟨b, by simpa using e, hb⟩

theorem flt_dat {k : FloatKind} {b n : Nat} (h : fcanon k b = n) : VR g m S w (.one (.dat (.flt k) n)) (.float k b) := ⟨b, rfl, h⟩

theorem Runs.drew {s : Sem Value} {e : Eff} {v : IVal} {r : Value} (h : Sim cx g st a w) (he : e.new = [] ∧ e.upd = [] ∧ e.val = v) (hr : s.run cx.P w = .ok r w.drew) (hv : ∀ g m S w, VR g m S w v r) : Runs cx st a w s e := by
 refine ⟨r, w.drew, hr, g, ?_, ?_⟩
 ·rw [he.1, he.2.1]
  exact h.turn (G := []) ⟨KeepF.drew _ _, fun b hb => (by simp at hb), fun _ _ => rfl, fun k ch hk => .inl ⟨hk, fun _ b _ _ hb => by simp at hb⟩, fun k ch hk hk' => by
   change lk k st.mem = some ch at hk'
   rw [hk] at hk'; cases hk'⟩
 ·rw [he.2.2]; exact hv _ _ _ _

theorem eqFs_sound {P : Program} {g : GM} {m : Mem} {S : Nat → Prop} {w w' : World} {d : Nat} {cs ds : List ICell} {us vs : List Value} (hu : All2 (CR g m S w) cs us) (hv : All2 (CR g m S w) ds vs) :
  ∀ (fs : List Field) (b : Bool), eqFs P cs ds fs = some b → (Op.eqFields (d + 1) us.toArray vs.toArray fs).run P w' = .ok b w'
 | [], b, h => by
  unfold eqFs at h
  injection h with h
  subst h
  rfl
 | f :: r, b, h => by
  unfold eqFs at h
  split at h
  ·rename_i k k1 x k2 y e hT hc hd he
   cases hn : f.name == "_" with
   | true => rw [hn] at h; cases h
   | false =>
    rw [hn] at h
    simp only [cond_false] at h
    split at h
    case isFalse => cases h
    rename_i hk
    subst hk
    injection h with h
    subst h
    have hn' : f.name ≠ "_" := by
     intro hh; rw [hh] at hn; simp at hn
    obtain ⟨u, hu1, hu2⟩ := hu.get _ _ hc
    obtain ⟨v, hv1, hv2⟩ := hv.get _ _ hd
    have e1 : u = .int k1 x := dat_int (g := g) (m := m) (S := S) (w := w) hu2
    have e2 : v = .int k1 y := dat_int (g := g) (m := m) (S := S) (w := w) hv2
    subst e1
    subst e2
    have p1 : (part f.type us.toArray f.offset).run P w' = .ok (.int k1 x) w' := by simp [part, isAgg, run_underlying hT, hu1]
    have p2 : (part f.type vs.toArray f.offset).run P w' = .ok (.int k1 y) w' := by simp [part, isAgg, run_underlying hT, hv1]
    have p3 := run_equalIn_int w' d f.type k1 k x y hT
    unfold Op.eqFields
    rw [if_pos hn']
    simp only [Sem.run_bind, p1, p2, p3, Result.andThen_ok]
    cases hxy : (x == y) with
    | true => simpa using eqFs_sound hu hv r e he
    | false => simp
  ·cases h

theorem iStructEq_sound {P : Program} {g : GM} {m : Mem} {S : Nat → Prop} {w : World} {op : BinOp} {T : TypeId} {cs ds : List ICell} {e : Eff} {xa ya : Value} (h : iStructEq P T op cs ds = some e) (hx : VR g m S w (.agg cs) xa) (hy : VR g m S w (.agg ds) ya) :
  Gives P g m S w (binOp op T xa ya) e := by
 obtain ⟨us, rfl, hu⟩ := hx
 obtain ⟨vs, rfl, hv⟩ := hy
 unfold iStructEq at h
 split at h
 ·rename_i fs hT
  cases hg : P.stoodInHeld T with
  | true => rw [hg] at h; cases h
  | false =>
   cases hq : P.eqGuardType P.depth T with
   | true => rw [hg, hq] at h; cases h
   | false =>
    rw [hg, hq] at h
    simp only [Bool.or_self, cond_false] at h
    have hf : Program.fieldsOf P T = fs := by unfold Program.fieldsOf; rw [hT]
    split at h
    ·rename_i b hb
     have := eqFs_sound (w' := w) (d := 9998) hu hv _ _ hb
     refine Gives.mk (pureE_eq h) (r := .bool b) ?_ rfl
     rw [run_eql_struct, show (10000 : Nat) = 9999 + 1 from rfl, run_equalIn_agg w 9999 T _ _ (by rw [hf]; exact hT) hg, hf, this]
     rfl
    ·rename_i b hb
     have := eqFs_sound (w' := w) (d := 9998) hu hv _ _ hb
     refine Gives.mk (pureE_eq h) (r := .bool (!b)) ?_ rfl
     rw [run_neq_struct, show (10000 : Nat) = 9999 + 1 from rfl, run_equalIn_agg w 9999 T _ _ (by rw [hf]; exact hT) hg, hf, this]
     rfl
    ·cases h
 ·cases h

theorem iStructEq_guard {P : Program} {w : World} {op : BinOp} {T : TypeId} {cs ds : List ICell} {e : Eff} {x y : Operand} {us vs : Array Value} (h : iStructEq P T op cs ds = some e) : (eqGuard op T x y (.agg us) (.agg vs)).run P w = .ok () w := by
 unfold iStructEq at h
 split at h
 ·cases hq : P.eqGuardType P.depth T with
  | true => rw [hq] at h; simp only [Bool.or_true, cond_true] at h; cases h
  | false => exact run_eqGuard_agg w op T x y us vs hq
 ·cases h

theorem iBinF_sound {op : BinOp} {x y : IVal} {e : Eff} {T : TypeId} {xa ya : Value} (hs : Sim cx g st a w) (h : iBinF cx.P T op x y = some e) (hc : AllP e.cond) (hx : VR g st.mem (cx.safe g st.mem w) w x xa) (hy : VR g st.mem (cx.safe g st.mem w) w y ya) :
  Runs cx st a w (binOp op T xa ya) e := by
 unfold iBinF at h
 split at h
 ·rename_i k n k' n'
  obtain ⟨b, rfl, hb⟩ := dat_flt (g := g) (m := st.mem) (S := cx.safe g st.mem w) (w := w) hx
  obtain ⟨b', rfl, hb'⟩ := dat_flt (g := g) (m := st.mem) (S := cx.safe g st.mem w) (w := w) hy
  split at h
  ·rename_i hk
   subst hk
   split at h
   ·rename_i ha
    have hf : floatBits op k n n' = floatBits op k b b' := by rw [← hb, ← hb']; exact floatBits_canon op k b b'
    have he := pureE_eq h
    unfold fop at he
    rw [hf] at he
    cases hr : floatBits op k b b' with
    | some r =>
     rw [hr] at he
     exact Gives.runs hs (Gives.mk he (run_float_arith w op T k b b' r hr) (flt_dat rfl))
    | none =>
     rw [hr] at he
     have hn : (binOp op T (.float k b) (.float k b')).run cx.P w = .ok (.float k (Question.cut (.nanBits k b b') (w.tape w.drawn (.nanBits k b b')))) w.drew := by
      unfold floatBits at hr
      cases op <;> simp only [isArith, Bool.false_eq_true] at ha <;> simp only at hr <;> simp [binOp, Op.floatArith, hr, Question.forced]
     exact Runs.drew hs he hn fun g m S w => flt_dat (cut_nan k b b' _)
   ·have ho : k.format.order n n' = k.format.order b b' := by rw [← hb, ← hb']; exact order_canon k b b'
    have hg : Gives cx.P g st.mem (cx.safe g st.mem w) w (binOp op T (.float k b) (.float k b')) e := by
     unfold iFCmp at h
     split at h
     ·exact Gives.mk (pureE_eq h) (r := .bool (feq k n n')) (by simp [binOp, Op.floatCmp, feq, ho]) rfl
     ·exact Gives.mk (pureE_eq h) (r := .bool (!feq k n n')) (by simp [binOp, Op.floatCmp, feq, ho, bne]) rfl
     ·exact Gives.mk (pureE_eq h) (r := .bool (flt k n n')) (by simp [binOp, Op.floatCmp, flt, ho]) rfl
     ·exact Gives.mk (pureE_eq h) (r := .bool (fle k n n')) (by simp [binOp, Op.floatCmp, fle, ho]) rfl
     ·exact Gives.mk (pureE_eq h) (r := .bool (fgt k n n')) (by simp [binOp, Op.floatCmp, fgt, ho]) rfl
     ·exact Gives.mk (pureE_eq h) (r := .bool (fge k n n')) (by simp [binOp, Op.floatCmp, fge, ho]) rfl
     ·cases h
    exact Gives.runs hs hg
  ·cases h
 ·exact Gives.runs hs (iStructEq_sound h hx hy)
 ·exact Gives.runs hs (iBin_sound h hc hx hy)

theorem iUnF_sound {op : UnOp} {x : IVal} {e : Eff} {xa : Value} (h : iUnF op x = some e) (hx : VR g m S w x xa) : Gives P g m S w (Op.unary op xa) e := by
 unfold iUnF at h
 split at h
 ·rename_i k n
  obtain ⟨b, rfl, hb⟩ := dat_flt (g := g) (m := m) (S := S) (w := w) hx
  refine Gives.mk (pureE_eq h) (r := .float k (Op.negFloat k b)) (by simp [Op.unary]) (flt_dat ?_)
  unfold fneg
  rw [← hb, neg_canon]
 ·exact iUn_sound h hx

theorem isByte_spec {T : TypeId} (h : isByteSlice P T = true) : ∃ e, P.underlying T = some (.slice e) ∧ P.underlying e = some (.int .u8) := by
 unfold isByteSlice at h
 split at h
 ·rename_i e h1
  split at h
  ·rename_i h2; exact ⟨e, h1, h2⟩
  ·cases h
 ·cases h

theorem bytes_els {S' : Nat → Prop} {w' : World} {s : List UInt8} {arr : Array Value} (h : ∀ j (hj : j < s.length), arr[j]? = some (.int .u8 ((s[j].toNat : Nat) : Int))) : ElsR S' w' (.int .u8) (bytesI s) arr := by
 intro i hi
 have hi' : i < s.length := by simpa [bytesI] using hi
 refine ⟨[.int .u8 ((s[i].toNat : Nat) : Int)], fun j u hj => ?_, ?_⟩
 ·cases j with
  | zero =>
   simp only [List.getElem?_cons_zero, Option.some.injEq] at hj
   subst hj
   simp only [Ty.size, Nat.mul_one, Nat.add_zero]
   exact h i hi'
  | succ j => simp at hj
 ·show [Value.int .u8 ((s[i].toNat : Nat) : Int)] = [Value.int .u8 ((bytesI s)[i])]
  simp [bytesI]

theorem freeze_heap (w : World) (b n : Nat) {arr : Array Value} {T : TypeId} {lo hi : Nat} (h : w.heap[b]? = some (.cells arr T (lo, hi))) :
  (w.freeze ⟨b, n, none⟩ 1).heap[b]? = some (.cells arr T (if lo == hi then (n, n + 1) else (min lo n, max hi (n + 1)))) := by
 simp [World.freeze, Array.getElem?_modify, h]

theorem freeze_other (w : World) (b n q : Nat) (hq : q ≠ b) : (w.freeze ⟨b, n, none⟩ 1).heap[q]? = w.heap[q]? := by
 simp [World.freeze, Array.getElem?_modify, Ne.symm hq]

theorem freeze_blk {w : World} {b : Nat} {arr : Array Value} (h : blk w b arr) : blk (w.freeze ⟨b, arr.size, none⟩ 1) b arr := by
 obtain ⟨T, lo, hi, h, hf⟩ := h
 by_cases e : lo = hi
 ·subst e
  exact ⟨T, arr.size, arr.size + 1, by rw [freeze_heap w b arr.size h]; simp, .inr (Nat.le_refl _)⟩
 ·exact ⟨T, min lo arr.size, max hi (arr.size + 1), by rw [freeze_heap w b arr.size h, if_neg (by simpa using e)], .inr (by omega)⟩

theorem freeze_keep {w : World} {b : Nat} {arr : Array Value} (h : blk w b arr) : KeepF [b] w (w.freeze ⟨b, arr.size, none⟩ 1) := by
 have hfr : (w.freeze ⟨b, arr.size, none⟩ 1).os = w.os ∧ (w.freeze ⟨b, arr.size, none⟩ 1).tape = w.tape ∧ (w.freeze ⟨b, arr.size, none⟩ 1).output = w.output ∧ (w.freeze ⟨b, arr.size, none⟩ 1).heap.size = w.heap.size := by
  unfold World.freeze; split <;> simp
 refine ⟨hfr.1, hfr.2.1, hfr.2.2.1, by rw [hfr.2.2.2]; exact Nat.le_refl _, fun q _ hq => freeze_other w b arr.size q (by simpa using hq), fun q arr' hb => ?_⟩
 by_cases e : q = b
 ·subst e
  have := hb.eq h
  subst this
  exact ⟨arr', freeze_blk h, rfl⟩
 ·exact ⟨arr', hb.keep (freeze_other w b arr.size q e), rfl⟩

theorem iConvertM_sound {T U : TypeId} {x : IVal} {e : Eff} {xa : Value} (hs : Sim cx g st a w) (hw : Fresh st.mem e.new) (h : iConvertM cx.P st.mem st.nx T U x = some e) (hc : AllP e.cond) (hx : VR g st.mem (cx.safe g st.mem w) w x xa) : Runs cx st a w (convert T U xa) e := by
 unfold iConvertM at h
 split at h
 ·rename_i u k s n h1 h2
  obtain ⟨b, rfl, hb⟩ := dat_flt (g := g) (m := st.mem) (S := cx.safe g st.mem w) (w := w) hx
  obtain ⟨he, hco⟩ := pureC_eq h
  rw [hco] at hc
  have hok : fconvOK s k n = true := hc.1
  by_cases hsk : s = k
  ·subst hsk
   have e1 : fconv s s n = n := by unfold fconv; rw [if_pos rfl]
   rw [e1] at he
   refine Gives.runs hs (Gives.mk he (r := .float s b) (run_convert_float_float w T U s s b b (by rw [h1]; rfl) h2 (by simp [floatToFloatBits])) (flt_dat hb))
  ·have hcn := fconv_canon s k b hsk
   rw [hb] at hcn
   rw [hcn.2] at he
   rw [hcn.1] at hok
   unfold fconvOK at hok
   unfold fconv at he
   rw [if_neg hsk] at hok he
   cases hd : s.decode b with
   | nan sg t =>
    rw [hd] at he
    have hn : (convert T U (.float s b)).run cx.P w = .ok (.float k (Question.cut (.nanConv k b) (w.tape w.drawn (.nanConv k b)))) w.drew := by
     cases u <;> simp [convert, run_underlying h1, run_underlying h2, Conv.floatToFloat, hsk, hd, Question.forced]
    exact Runs.drew hs he hn fun g m S w => flt_dat (cut_nanc k b _)
   | infinity sg =>
    rw [hd] at he
    exact Gives.runs hs (Gives.mk he (run_convert_float_float w T U s k b _ (by rw [h1]; rfl) h2 (by simp [floatToFloatBits, hsk, hd])) (flt_dat rfl))
   | number sg mm ee =>
    rw [hd] at he hok
    have hok : (k.decode (k.encode (.number sg mm ee))).isInfinity = false := by simpa using hok
    exact Gives.runs hs (Gives.mk he (run_convert_float_float w T U s k b _ (by rw [h1]; rfl) h2 (by simp [floatToFloatBits, hsk, hd, hok])) (flt_dat rfl))
 ·rename_i u k kk n h1 h2
  have := dat_int (g := g) (m := st.mem) (S := cx.safe g st.mem w) (w := w) hx
  subst this
  exact Gives.runs hs (Gives.mk (pureE_eq h) (r := .float k (k.nearest n)) (by cases u <;> simp [convert, run_underlying h1, run_underlying h2, Conv.intToFloat]) (flt_dat rfl))
 ·rename_i el s h1 h2
  cases hb : isByteSlice cx.P U with
  | false => simp [hb] at h
  | true =>
   rw [hb] at h
   simp only [cond_true] at h
   injection h with h
   subst h
   obtain ⟨e1, k1, k2⟩ := isByte_spec hb
   have hxa := dat_str (g := g) (m := st.mem) (S := cx.safe g st.mem w) (w := w) hx
   subst hxa
   have hlen : s.length ≤ appMax := hc.1
   unfold appMax at hlen
   have hrun := Lib.run_convert_string_bytes (P := cx.P) w T U e1 ⟨s.toArray⟩ h1 k1 k2
   have hsz : (⟨s.toArray⟩ : ByteArray).size = s.length := by simp [ByteArray.size]
   rw [hsz] at hrun
   have hge := grownCap_ge w s.length 0 e1
   have hmx := grownCap_le_maxLen w s.length 0 e1 (by unfold maxLen; omega)
   refine ⟨_, _, hrun, ?_⟩
   have hnew := Lib.bytesWorld_at_new w e1 ⟨s.toArray⟩
   have hcs : (Lib.bytesCells w e1 ⟨s.toArray⟩).size = grownCap w s.length 0 e1 := by
    simp [Lib.bytesCells, hsz]; omega
   have hblk : blk (Lib.bytesWorld w e1 ⟨s.toArray⟩) w.heap.size (Lib.bytesCells w e1 ⟨s.toArray⟩) :=
    ⟨_, _, _, hnew, .inr (Nat.le_refl _)⟩
   have hold : ∀ j, j < w.heap.size → (Lib.bytesWorld w e1 ⟨s.toArray⟩).heap[j]? = w.heap[j]? := fun j hj => Lib.bytesWorld_at_old w e1 ⟨s.toArray⟩ j hj
   have hkeep : KeepF [] w (Lib.bytesWorld w e1 ⟨s.toArray⟩) := by
    have hfr : ∀ (w : World) (a : Addr) (n : Nat), (w.freeze a n).os = w.os ∧ (w.freeze a n).tape = w.tape ∧ (w.freeze a n).output = w.output := by
     intro w a n; unfold World.freeze; split <;> exact ⟨rfl, rfl, rfl⟩
    have hf := hfr (w.drew.alloc (.cells (Lib.bytesCells w e1 ⟨s.toArray⟩) e1)) ⟨w.heap.size, (Lib.bytesCells w e1 ⟨s.toArray⟩).size, none⟩ 1
    exact ⟨hf.1, hf.2.1, hf.2.2, by rw [Lib.bytesWorld_size]; omega, fun b hb _ => hold b hb, fun b arr hb => ⟨arr, hb.keep (hold b hb.lt), rfl⟩⟩
   refine Did.newAt (G := []) (up := []) (gk := some w.heap.size) hs hw ⟨rfl, rfl, rfl⟩ (.inl rfl) hkeep (.inl rfl) (fun b hb => by injection hb with hb; left; omega) (fun b hb => by injection hb with hb; subst hb; exact hblk.lt) (fun S' hS => ⟨_, hblk, ?_⟩) ?_
   ·refine ElsO.of_els rfl (bytes_els fun j hj => ?_)
    simp [Lib.bytesCells, hj, Array.getElem?_append]
   ·exact ⟨_, _, by simp [bytesI], by simp [bytesI]; exact hge, hblk, by rw [hcs]; simp [Ty.size], hmx⟩
 ·rename_i el1 el2 c h1 h2
  cases hb : (Nat.beq T U && isByteSlice cx.P T) with
  | false => rw [hb] at h; cases h
  | true =>
   rw [hb] at h
   simp only [cond_true] at h
   simp only [Bool.and_eq_true] at hb
   have hTU := beq_of hb.1
   subst hTU
   obtain ⟨e1, k1, k2⟩ := isByte_spec hb.2
   split at h
   ·rename_i t xs hl
    split at h
    ·rename_i ht
     injection h with h
     subst h
     have hpos : 0 < List.length xs := hc.1
     have hch := hs.mem c _ hl
     have hall := hx.2.2 t xs (.inl hl)
     unfold AllR at hall
     unfold ChR at hch
     cases hg : g.f c [] with
     | none =>
      rw [hg] at hch
      have : xs = [] := hch
      subst this
      simp at hpos
     | some b =>
      rw [show g c = some b from hg] at hall
      rw [hg] at hch
      obtain ⟨arr, hbl, hels⟩ := hch
      obtain ⟨cap, arr', e2, q1, q2, q3, q4⟩ := hall
      have := q2.eq hbl
      subst this
      subst e2
      have hbl2 := hbl
      obtain ⟨T0, lo, hi, hh, _⟩ := hbl2
      have hsh : w.shape? b = some (T0, arr'.size) := by
       simp [World.shape?, hh]
      clear hh
      have hrun : (convert T T (.slice (some ⟨b, 0, none⟩) (List.length xs) cap)).run cx.P w = .ok (.slice (some ⟨b, 0, none⟩) (List.length xs) cap) (w.freeze ⟨b, arr'.size, none⟩ 1) := by
       simp [convert, run_underlying k1, run_underlying k2, markStringish, hsh]
      subst ht
      refine ⟨_, _, hrun, g, ?_, ?_⟩
      ·have q : Chg g st w (w.freeze ⟨b, arr'.size, none⟩ 1) c b [] (.seq (.int .u8) xs) (.seq (.int .u8) xs) :=
        ⟨hl, trivial, hg, freeze_keep hbl, ⟨arr', arr', hbl, freeze_blk hbl, rfl⟩, fun _ _ => trivial, by simp, fun t' xs' e => ⟨xs', e, rfl⟩, fun t' xs' e => ⟨xs', e, ShapeEq.refl _ _⟩⟩
       refine Sim.chg hs q ?_
       unfold ChR
       rw [hg]
       exact ⟨arr', freeze_blk hbl, .of_els rfl fun i hi => by
         obtain ⟨es, r1, r2⟩ := hels.els rfl i hi
         exact ⟨es, r1, r2⟩⟩
      ·refine ⟨by simp [lk_cons], rfl, fun t' xs' hl' => ?_⟩
       have hl2 : lk c ((c, Chunk.seq (.int .u8) xs) :: st.mem) = some (.seq (.int .u8) xs) := by rw [lk_cons, if_pos rfl]
       have hl' := SeqAt.toSeq hl2 hl'
       rw [hl2] at hl'
       injection hl' with hl'
       injection hl' with ht2 hxs2
       subst ht2
       have hxs2 := eq_of_heq hxs2
       subst hxs2
       unfold AllR
       rw [show g c = some b from hg]
       exact ⟨cap, arr', rfl, q1, freeze_blk hbl, q3, q4⟩
    ·cases h
   ·cases h
 ·rename_i x0 _ _ _ el h1 h2
  cases hb : (isByteSlice cx.P T && srcOK st.mem x0) with
  | false => rw [hb] at h; cases h
  | true =>
   rw [hb] at h
   simp only [cond_true] at h
   simp only [Bool.and_eq_true] at hb
   obtain ⟨hb, hsok⟩ := hb
   split at h
   ·rename_i l hl
    obtain ⟨e1, k1, k2⟩ := isByte_spec hb
    rw [k1] at h1
    injection h1 with h1
    injection h1 with h1
    subst h1
    obtain ⟨news, hsr⟩ := src_rel hs.mem hl hsok rfl hx
    obtain ⟨ax, capx, ex, hxc⟩ := hsr.val
    subst ex
    refine Gives.runs hs (Gives.mk (pureE_eq h) (r := .string ⟨(bytesO l).toArray⟩) ?_ rfl)
    have hnews : news = l.map (Value.int .u8) := by
     refine List.ext_getElem? fun j => ?_
     have hln : news.length = l.length := by have := hsr.len; simpa [Ty.size] using this
     rcases Nat.lt_or_ge j l.length with hj | hj
     ·obtain ⟨es, q1, q2⟩ := hsr.els j hj
      have q2 : es = [Value.int .u8 l[j]] := q2
      have := q1 0 (by simp [Ty.size])
      simp only [Ty.size, Nat.mul_one, Nat.add_zero, q2, List.getElem?_cons_zero] at this
      have e3 : (List.map (Value.int .u8) l)[j]? = some (.int .u8 l[j]) := by
       rw [List.getElem?_map, List.getElem?_eq_getElem hj]; rfl
      rw [e3, this]
     ·rw [List.getElem?_eq_none (by omega), List.getElem?_eq_none (by simp; omega)]
    rw [run_convert_bytes_string w T U e1 ax l.length capx k1 k2 h2]
    have hfold : ∀ (l : List Int) (r : ByteArray), l.foldl (fun r n => r.push (UInt8.ofNat n.toNat)) r = ⟨r.data ++ (bytesO l).toArray⟩ := by
     intro l
     induction l with
     | nil => intro r; simp [bytesO]
     | cons n l ih => intro r; rw [List.foldl_cons, ih]; simp [bytesO, ByteArray.push]
    rcases hxc with h0 | ⟨ad, rfl, hcell⟩
    ·have : l = [] := List.eq_nil_of_length_eq_zero h0
     subst this
     cases ax with
     | none => simp [Conv.bytesToString, bytesO]; rfl
     | some ad => simp [Conv.bytesToString, bytesO, loadCells, loadCellsFrom]; rfl
    ·have hl := run_loadCells_list (P := cx.P) w ad (l.map (Value.int .u8)) (fun j v hj => hcell j v (by rw [hnews]; exact hj))
     simp only [List.length_map] at hl
     rw [run_bytesToString w ad l.length capx _ hl, hfold]
     simp
   ·cases h
 ·exact Gives.runs hs (iConvert_sound h hx)

theorem string_cells {w : World} {y : List UInt8} {n : Nat} (hn : n = y.length) (size : Nat) : (Builtin.firstCells size n (.string ⟨y.toArray⟩)).run P w = .ok ((bytesI y).map (Value.int .u8)).toArray w := by
 subst hn
 have e : (⟨y.toArray⟩ : ByteArray).extract 0 y.length = ⟨y.toArray⟩ := by
  apply ByteArray.ext
  simp
 simp only [Builtin.firstCells, e, Sem.run_pure]
 simp [bytesI]

theorem run_apps_grow {t u ty e : TypeId} {i : TypeInfo} {z : Value} (ht : P.underlying t = some (.slice e)) (hu : P.underlying u = some .string) (hi : P.info? e = some i) (hz : i.zero = some z)
  {base : Option Addr} {n cap : Nat} {olds : List Value} (hlo : olds.length = n * i.size) (ho : n = 0 ∨ ∃ ad, base = some ad ∧ ∀ j v, olds[j]? = some v → w.cell? (ad.add j) = some v)
  {y : List UInt8} (hg : cap < n + y.length) (hb : (n + y.length) * i.bytes ≤ 140737488355328) (h63 : n + y.length ≤ 9223372036854775807) :
  (Builtin.append_ #[t, u] ty #[.slice base n cap, .string ⟨y.toArray⟩]).run P w =
   .ok (.slice (some ⟨w.heap.size, 0, none⟩) (n + y.length) (grownCap w (n + y.length) cap e))
    (w.drew.alloc (.cells (olds.toArray ++ ((bytesI y).map (Value.int .u8)).toArray ++ Builtin.zeroCells z.cells (grownCap w (n + y.length) cap e - (n + y.length))) e)) := by
 have hroom : ¬ (n + y.length ≤ cap) := by omega
 have h63' : ¬ (9223372036854775807 < ((n : Int) + (y.length : Int))) := by omega
 have h48 := growslice_fits (old := cap) hg hb
 have h48' : ¬ (281474976710656 < Builtin.nextslicecap (n + y.length) cap * i.bytes) := by omega
 have hf := string_cells (P := P) (w := w.drew) (y := y) (n := y.length) rfl i.size
 have hfo := run_firstCells_of (P := P) (w := w.drew) (len := n) (cap := cap) hlo ho
 have hsz : (⟨y.toArray⟩ : ByteArray).size = y.length := by simp [ByteArray.size]
 simp [Builtin.append_, run_underlying ht, run_underlying hu, sizeOf, typeInfo, zeroValue, hi, hz, Builtin.lenOf, hsz, hroom, h63', h48', Question.forced, hf, hfo, newRow, grownCap]
 congr 2
 apply Array.ext'
 simp [List.append_assoc]

theorem run_apps_room {t u ty e : TypeId} {i : TypeInfo} (ht : P.underlying t = some (.slice e)) (hu : P.underlying u = some .string) (hi : P.info? e = some i) (hsz1 : i.size = 1) {b n cap : Nat} {arr : Array Value} (hb : blk w b arr)
  {y : List UInt8} (hroom : n + y.length ≤ cap) (hfit : (n + y.length) * i.size ≤ arr.size) :
  ∃ w' arr', (Builtin.append_ #[t, u] ty #[.slice (some ⟨b, 0, none⟩) n cap, .string ⟨y.toArray⟩]).run P w = .ok (.slice (some ⟨b, 0, none⟩) (n + y.length) cap) w' ∧ blk w' b arr' ∧
   arr'.toList = arr.toList.take (n * i.size) ++ (bytesI y).map (Value.int .u8) ++ arr.toList.drop (n * i.size + y.length) ∧ KeepF [b] w w' ∧ w'.heap.size = w.heap.size := by
 have hf := string_cells (P := P) (w := w) (y := y) (n := y.length) rfl i.size
 have hsz : (⟨y.toArray⟩ : ByteArray).size = y.length := by simp [ByteArray.size]
 have hl : ((bytesI y).map (Value.int .u8)).length = y.length := by simp [bytesI]
 obtain ⟨w', arr', e, k1, k2, k3, k4⟩ := run_storeCells_blk (P := P) ((bytesI y).map (Value.int .u8)) (n * i.size) 0 w arr hb (by rw [hl, Nat.add_zero, hsz1]; rw [hsz1] at hfit; omega) (fun v hv => by
  obtain ⟨x, _, rfl⟩ := List.mem_map.1 hv
  rfl)
 rw [hl] at k2
 refine ⟨w', arr', ?_, k1, by simpa using k2, k3, k4⟩
 have ha : (⟨b, 0, none⟩ : Addr).add (n * i.size) = ⟨b, n * i.size, none⟩ := by rw [add_none]; simp
 simp [Builtin.append_, run_underlying ht, run_underlying hu, sizeOf, typeInfo, hi, Builtin.lenOf, hsz, hroom, hf, ha, e]

theorem run_apps_none {t u ty e : TypeId} {i : TypeInfo} (ht : P.underlying t = some (.slice e)) (hu : P.underlying u = some .string) (hi : P.info? e = some i) {base : Option Addr} :
  (Builtin.append_ #[t, u] ty #[.slice base 0 0, .string ⟨#[]⟩]).run P w = .ok (.slice base 0 0) w := by
 have hf := string_cells (P := P) (w := w) (y := []) (n := 0) rfl i.size
 have hsz : (⟨#[]⟩ : ByteArray).size = 0 := rfl
 have hf : (Builtin.firstCells i.size 0 (.string ⟨#[]⟩)).run P w = .ok #[] w := hf
 cases base <;> simp [Builtin.append_, run_underlying ht, run_underlying hu, sizeOf, typeInfo, hi, Builtin.lenOf, hsz, hf, storeCells]

theorem bytes_elsL {S' : Nat → Prop} {w' : World} {y : List UInt8} : ElsL S' w' (.int .u8) (bytesI y) ((bytesI y).map (Value.int .u8)) := fun i hi => by
 refine ⟨[.int .u8 (bytesI y)[i]], fun j hj => ?_, rfl⟩
 have : j = 0 := by simpa [Ty.size] using hj
 subst this
 simp [Ty.size, hi]

theorem iAppendS_sound {T T' : TypeId} {ty : TypeId} {s x : IVal} {e : Eff} {sv xv : Value} (h : Sim cx g st a w) (hw : Fresh st.mem e.new) (he : iAppendS cx.P st.mem st.nx T T' s x = some e) (hc : AllP e.cond)
  (hs : VR g st.mem (cx.safe g st.mem w) w s sv) (hx : VR g st.mem (cx.safe g st.mem w) w x xv) : Runs cx st a w (Builtin.append_ #[T, T'] ty #[sv, xv]) e := by
 unfold iAppendS at he
 split at he
 ·rename_i el y hu hu'
  have hxv := dat_str (g := g) (m := st.mem) (S := cx.safe g st.mem w) (w := w) hx
  subst hxv
  split at he
  ·rename_i i hi
   cases hb : ((isByteSlice cx.P T && Nat.beq i.size 1) && (Nat.ble i.bytes 32768 && i.zero.isSome) && (i.zero.map fun z => Nat.beq z.cells.size 1).getD false) with
   | false => simp [hb] at he
   | true =>
    rw [hb] at he
    simp only [cond_true] at he
    simp only [Bool.and_eq_true] at hb
    obtain ⟨⟨⟨hT, hsz⟩, hby, hzs⟩, hzc⟩ := hb
    have hsz := beq_of hsz
    have hby := ble_of hby
    obtain ⟨z, hz⟩ := Option.isSome_iff_exists.1 hzs
    rw [hz] at hzc
    have hzc : z.cells.size = 1 := beq_of (by simpa using hzc)
    split at he
    ·rename_i xs up hbase
     injection he with he
     subst he
     have hlen : xs.length + y.length ≤ appMax := hc.1
     unfold appMax at hlen
     obtain ⟨hup, hbv⟩ := base_rel h.mem hbase rfl hs
     have hbytes : (xs.length + y.length) * i.bytes ≤ 140737488355328 := by
      calc (xs.length + y.length) * i.bytes ≤ 4294967296 * 32768 := Nat.mul_le_mul hlen hby
       _ = 140737488355328 := by decide
     have hyl : (bytesI y).length = y.length := by simp [bytesI]
     have hnl : ((bytesI y).map (Value.int .u8)).length = y.length := by simp [bytesI]
     have grow : ∀ (base : Option Addr) (cap : Nat) (olds : List Value), olds.length = xs.length * i.size → (xs.length = 0 ∨ ∃ ad, base = some ad ∧ ∀ j v, olds[j]? = some v → w.cell? (ad.add j) = some v) →
       ElsL (cx.safe g st.mem w) w (.int .u8) xs olds → cap < xs.length + y.length → (up = [] ∨ ∃ c ch0, up = [(c, .gone)] ∧ lk c st.mem = some ch0 ∧ ch0 ≠ .gone) →
       Runs cx st a w (Builtin.append_ #[T, T'] ty #[.slice base xs.length cap, .string ⟨y.toArray⟩]) ⟨.one (.all st.nx), [(st.nx, .seq (.int .u8) (xs ++ bytesI y))], up, [List.length xs + List.length y ≤ appMax]⟩ := by
      intro base cap olds hol ho hels hlt hup
      have hge := grownCap_ge w (xs.length + y.length) cap el
      have hmx := grownCap_le_maxLen w (xs.length + y.length) cap el (by unfold maxLen; omega)
      have hr := run_apps_grow (P := cx.P) (ty := ty) hu hu' hi hz hol ho hlt hbytes (by omega)
      have hkeep : KeepF [] w (w.drew.alloc (.cells (olds.toArray ++ ((bytesI y).map (Value.int .u8)).toArray ++ Builtin.zeroCells z.cells (grownCap w (xs.length + y.length) cap el - (xs.length + y.length))) el)) :=
       (KeepF.drew [] w).trans (KeepF.alloc _ _ _)
      have hblk := blk.new w.drew (olds.toArray ++ ((bytesI y).map (Value.int .u8)).toArray ++ Builtin.zeroCells z.cells (grownCap w (xs.length + y.length) cap el - (xs.length + y.length))) el
      refine ⟨_, _, hr, ?_⟩
      refine Did.newAt (G := []) (gk := some w.heap.size) h hw ⟨rfl, rfl, rfl⟩ hup hkeep (.inl rfl) (fun b hb => by injection hb with hb; left; omega) (fun b hb => by injection hb with hb; subst hb; exact hblk.lt) (fun S' hS => ⟨_, hblk, ?_⟩) ?_
      ·refine ElsO.of_els rfl (ElsL.toR ?_)
       simp only [Array.toList_append]
       have h1 : ElsL S' (w.drew.alloc (.cells (olds.toArray ++ ((bytesI y).map (Value.int .u8)).toArray ++ Builtin.zeroCells z.cells (grownCap w (xs.length + y.length) cap el - (xs.length + y.length))) el)) (.int .u8) xs olds := fun i hi => by
        obtain ⟨es, k1, k2⟩ := hels i hi
        exact ⟨es, k1, Rep.keep hS _ es _ k2⟩
       exact ElsL.app h1 (by rw [hol, hsz]; rfl) bytes_elsL (by rw [hnl, hyl]; simp [Ty.size])
      ·refine ⟨grownCap w (xs.length + y.length) cap el, _, ?_, by rw [List.length_append, hyl]; exact hge, hblk, ?_, hmx⟩
       ·rw [List.length_append, hyl]
       ·simp only [Array.size_append, List.size_toArray, size_zeroCells, hzc, hol, hnl, hsz, Ty.size]
        omega
     rcases hbv with ⟨hx0, ab, eb⟩ | ⟨c, ch, b, cap, arr, e1, e2, e3, e4, e5, hcap, hblk, hfit, hmax, hels⟩
     ·subst eb
      subst hx0
      by_cases hy : y.length = 0
      ·have hy' : y = [] := List.eq_nil_of_length_eq_zero hy
       subst hy'
       refine ⟨_, _, run_apps_none (P := cx.P) hu hu' hi, ?_⟩
       exact Did.newAt (G := []) (gk := none) h hw ⟨rfl, rfl, rfl⟩ hup (KeepF.refl _ _) (.inl rfl) (fun b hb => by cases hb) (fun b hb => by cases hb) (fun S' hS => rfl) ⟨ab, rfl⟩
      ·exact grow ab 0 [] (by simp) (.inl rfl) (fun i hi => by simp at hi) (by simp; omega) hup
     ·subst e5
      by_cases hroom : xs.length + y.length ≤ cap
      ·have hfit' : (xs.length + y.length) * i.size ≤ arr.size := by
        rw [hsz]
        have : cap * (Ty.int .u8).size ≤ arr.size := hfit
        simp only [Ty.size] at this
        omega
       obtain ⟨w', arr', hr, hb', hl', hk', hs'⟩ := run_apps_room (P := cx.P) (ty := ty) hu hu' hi hsz hblk hroom hfit'
       refine ⟨_, _, hr, ?_⟩
       refine Did.newAt (G := [b]) (gk := some b) h hw ⟨rfl, rfl, rfl⟩ hup hk' (.inr ⟨c, b, ch, e1, e2, e3, e4, rfl⟩) (fun b' hb2 => by injection hb2 with hb2; subst hb2; right; simp) (fun b' hb2 => by injection hb2 with hb2; subst hb2; exact hb'.lt) (fun S' hS => ⟨arr', hb', ?_⟩) ?_
       ·refine ElsO.of_els rfl (ElsL.toR ?_)
        rw [hl', hsz]
        have h1 : ElsL S' w' (.int .u8) xs (arr.toList.take (xs.length * 1)) := fun i hi => by
         obtain ⟨es, k1, k2⟩ := hels i hi
         exact ⟨es, k1, Rep.keep hS _ es _ k2⟩
        refine ElsL.app h1 ?_ bytes_elsL (by rw [hnl, hyl]; simp [Ty.size])
        rw [hsz] at hfit'
        simp [Ty.size]; omega
       ·refine ⟨cap, arr', by rw [List.length_append, hyl], by rw [List.length_append, hyl]; exact hroom, hb', ?_, hmax⟩
        have : arr'.size = arr.size := by
         rw [← Array.length_toList, hl']
         rw [hsz] at hfit' ⊢
         simp only [List.length_append, List.length_take, List.length_drop, hnl, Array.length_toList]
         omega
        rw [this]; exact hfit
      ·have hle : xs.length * 1 ≤ arr.size := by
        have : cap * (Ty.int .u8).size ≤ arr.size := hfit
        simp only [Ty.size] at this
        omega
       exact grow _ cap (arr.toList.take (xs.length * 1)) (by rw [hsz]; simp; omega) (.inr ⟨_, rfl, fun j v hj => by
        rw [add_none, hblk.cell]
        rw [List.getElem?_take] at hj
        split at hj
        ·simpa using hj
        ·cases hj⟩) hels (by omega) hup
    ·cases he
  ·cases he
 ·cases he

theorem run_bounds3 {lv : Option Value} {l h q : Int} {k1 k2 : IntKind} {len cap : Nat} (hl : (lv = none ∧ l = 0) ∨ ∃ k, lv = some (.int k l)) (h0 : 0 ≤ l) (h1 : l ≤ h) (h2 : h ≤ q) (h3 : q ≤ (cap : Int)) :
  (Instr.sliceBounds true len cap lv (some (.int k1 h)) (some (.int k2 q))).run P w = .ok (l.toNat, h.toNat, q.toNat) w := by
 have e1 : 0 ≤ q := by omega
 have e2 : 0 ≤ h := by omega
 have e3 : h ≤ ((q.toNat : Nat) : Int) := by omega
 have e4 : l ≤ ((h.toNat : Nat) : Int) := by omega
 have e5 : h ≤ max q 0 := by omega
 have e6 : l ≤ max h 0 := by omega
 rcases hl with ⟨rfl, rfl⟩ | ⟨k, rfl⟩
 ·simp [Instr.sliceBounds, Instr.sliceBound, asIntOf, e1, e2, h3, e5]
 ·simp [Instr.sliceBounds, Instr.sliceBound, asIntOf, h0, e1, e2, h3, e5, e6]

theorem iSliceM_sound {T : TypeId} {x : IVal} {lo hi mx : Option IVal} {e : Eff} {xa : Value} {lv hv qv : Option Value} (h : iSliceM P T x lo hi mx = some e) (hc : AllP e.cond)
  (hx : VR g m S w x xa) (hlo : OR g m S w lo lv) (hhi : OR g m S w hi hv) (hmx : OR g m S w mx qv) : Gives P g m S w (Instr.sliceAt T xa lv hv qv) e := by
 unfold iSliceM at h
 split at h
 ·rename_i el t xs hu
  split at h
  ·rename_i l k2 h' k q hl
   cases hb : (sizeT P el == some t.size) with
   | false => simp [hb] at h
   | true =>
    rw [hb] at h
    simp only [cond_true] at h
    have hs : sizeT P el = some t.size := by simpa using hb
    obtain ⟨he, hco⟩ := pureC_eq h
    rw [hco] at hc
    obtain ⟨⟨h0, h1, h2, h3⟩, _⟩ := hc
    have h0 : (0 : Int) ≤ (l : Int) := h0
    have h1 : @LE.le Int _ l h' := h1
    have h2 : @LE.le Int _ h' q := h2
    have h3 : @LE.le Int _ q ((List.length xs : Nat) : Int) := h3
    have hl' := loI_val hl hlo
    obtain ⟨a, cap, e1, hcap, hel⟩ := (hx : Rep S w (.sl t) [xa] xs)
    have hxa : xa = .slice a (List.length xs) cap := by simpa using e1
    subst hxa
    cases qv with
    | none => exact hmx.elim
    | some qv =>
     cases hv with
     | none => exact hhi.elim
     | some hv =>
      have hq := dat_int (g := g) (m := m) (S := S) (w := w) hmx
      subst hq
      have hh := dat_int (g := g) (m := m) (S := S) (w := w) hhi
      subst hh
      have hrun := run_bounds3 (P := P) (w := w) (k1 := k2) (k2 := k) (len := List.length xs) (cap := cap) hl' h0 h1 h2 (by omega)
      refine Gives.mk he (r := .slice (if q.toNat = l.toNat then a else a.map (·.add (l.toNat * t.size))) (h'.toNat - l.toNat) (q.toNat - l.toNat)) ?_ ?_
      ·simp [Instr.sliceAt, Instr.slice, run_underlying hu, hrun, run_sizeT hs]
      ·have hlen : List.length (cut xs l h') = h'.toNat - l.toNat := by unfold cut; simp; omega
       refine ⟨(if q.toNat = l.toNat then a else a.map (·.add (l.toNat * t.size))), q.toNat - l.toNat, by rw [hlen], by rw [hlen]; omega, fun j hj => ?_⟩
       rw [hlen] at hj
       obtain ⟨ad, es, ea, hS, hcell, hrep⟩ := hel (l.toNat + j) (by omega)
       subst ea
       rw [if_neg (by omega)]
       refine ⟨ad.add (l.toNat * t.size), es, rfl, by rw [add_block]; exact hS, fun k u hu => ?_, ?_⟩
       ·rw [add_add, ← Nat.add_assoc, ← Nat.add_mul]; exact hcell k u hu
       ·rw [cut_get (by omega) (by omega)]; exact hrep
  ·cases h
 ·cases h

end
end Go.Ide


/-
 New memory that nobody writes: literals of slices as data; results of calls as data.
-/
namespace Go.Ide

def iBuildSliceD (P : Program) (nx : Nat) (T : TypeId) (t : Ty) (len : Nat) (parts : List (Nat × IVal)) : Option Eff :=
 match P.underlying T with
 | some (.slice e) => bif (sizeT P e == some t.size && (((P.info? e).bind (·.zero)).map fun z => Nat.beq z.cells.size t.size) == some true) && (Nat.beq parts.length len && Nat.ble (len * t.size) 65536) then
   (match partsD t 0 parts with
   | some xs => some ⟨.one (.dat (.sl t) xs), [], [], []⟩
   | none => none) else none
 | _ => none

section
variable {cx : Cx} {g : GM} {st : St} {a : Act} {w w' : World}

theorem Did.imm {t : Ty} {xs : List t.D} {arr : Array Value} {el : TypeId} {e : Eff} (h : Sim cx g st a w) (he : e.new = [] ∧ e.upd = [] ∧ e.val = .one (.dat (.sl t) xs)) (hels : ElsL (cx.safe g st.mem w) w t xs arr.toList) :
  Did cx st a e (.slice (some ⟨w.heap.size, 0, none⟩) xs.length xs.length) (w.alloc (.cells arr el)) := by
 refine ⟨g, ?_, ?_⟩
 ·rw [he.1, he.2.1]; exact h.grow (KeepF.alloc _ _ _)
 ·rw [he.1, he.2.1, he.2.2]
  have hsize : (w.alloc (.cells arr el)).heap.size = w.heap.size + 1 := by simp
  have hsafe : ∀ b, cx.safe g st.mem w b → cx.safe g st.mem (w.alloc (.cells arr el)) b := fun b ⟨h1, h2, h3⟩ => ⟨by rw [hsize]; omega, h2, h3⟩
  have hnew : cx.safe g st.mem (w.alloc (.cells arr el)) w.heap.size := by
   refine ⟨by rw [hsize]; omega, fun hb => ?_, ?_⟩
   ·have := h.keep.size; omega
   ·rintro ⟨k, p, ch, hk, hn, hg⟩
    have := h.lt k p ch _ hk hn hg
    omega
  refine ⟨some ⟨w.heap.size, 0, none⟩, xs.length, rfl, Nat.le_refl _, fun i hi => ?_⟩
  obtain ⟨es, k1, k2⟩ := hels.toR i hi
  refine ⟨⟨w.heap.size, 0, none⟩, es, rfl, hnew, fun j v hj => ?_, Rep.keep (fun b hb => ⟨hsafe b hb, RowKit.Below.heap_alloc w _ b hb.1⟩) t es _ k2⟩
  rw [add_none, (blk.new w arr el).cell]
  simpa using k1 j v hj

theorem iBuildSliceD_sound {T : TypeId} {t : Ty} {len : Nat} {parts : List (Nat × IVal)} {vparts : Array (Nat × Value)} {e : Eff} (h : Sim cx g st a w) (he : iBuildSliceD cx.P st.nx T t len parts = some e)
  (hp : All2 (fun (p : Nat × IVal) (q : Nat × Value) => p.1 = q.1 ∧ VR g st.mem (cx.safe g st.mem w) w p.2 q.2) parts vparts.toList) : Runs cx st a w (Instr.buildSlice T len vparts) e := by
 unfold iBuildSliceD at he
 split at he
 ·rename_i el hu
  cases hb : ((sizeT cx.P el == some t.size && (((cx.P.info? el).bind (·.zero)).map fun z => Nat.beq z.cells.size t.size) == some true) && (Nat.beq parts.length len && Nat.ble (len * t.size) 65536)) with
  | false => rw [hb] at he; cases he
  | true =>
   rw [hb] at he
   simp only [cond_true] at he
   simp only [Bool.and_eq_true, beq_iff_eq] at hb
   obtain ⟨⟨hs, hz⟩, hn, h24⟩ := hb
   have hn := beq_of hn
   have h24 := ble_of h24
   subst hn
   split at he
   ·rename_i xs hx
    injection he with he
    subst he
    cases hi : cx.P.info? el with
    | none => simp [sizeT, hi] at hs
    | some i =>
     rw [hi] at hz
     simp only [Option.bind_some] at hz
     cases hzz : i.zero with
     | none => simp [hzz] at hz
     | some z =>
      rw [hzz] at hz
      have hz : Nat.beq z.cells.size t.size = true := by simpa using hz
      have hz := beq_of hz
      let base : Array Value := (Array.range (parts.length * t.size)).map fun k => (if parts.length * t.size = 0 then #[] else z.cells)[k % (if parts.length * t.size = 0 then #[] else z.cells).size]!
      have hbs : base.size = parts.length * t.size := by simp [base]
      obtain ⟨arr', news, e1, e2, e3, e4, e5⟩ := fill_parts (g := g) (m := st.mem) (S := cx.safe g st.mem w) (w := w) (arr := base) hx hp (by rw [hbs, Nat.zero_add]; exact Nat.le_refl _)
      have hrun : (Instr.buildSlice T parts.length vparts).run cx.P w = .ok (.slice (some ⟨w.heap.size, 0, none⟩) parts.length parts.length) (w.alloc (.cells arr' el)) := by
       have h24' : ¬ (16777216 < parts.length * t.size) := by omega
       by_cases h0 : parts.length * t.size = 0
       ·have e1' : Instr.fill (fun j => some (j * t.size, t.size)) ((Array.range (parts.length * t.size)).map fun k => (#[] : Array Value)[k % (#[] : Array Value).size]!) vparts.toList = some arr' := by
         have := e1
         simp only [base, h0, if_true] at this
         rw [h0]; exact this
        simp only [Instr.buildSlice, Sem.run_bind, run_underlying hu, Result.andThen_ok, run_sizeT hs]
        simp [h0, h24'] at e1' ⊢
        simp [e1', newRow]
       ·have e1' : Instr.fill (fun j => some (j * t.size, t.size)) ((Array.range (parts.length * t.size)).map fun k => z.cells[k % z.cells.size]!) vparts.toList = some arr' := by
         have := e1
         simp only [base, h0, if_false] at this
         exact this
        simp only [Instr.buildSlice, Sem.run_bind, run_underlying hu, Result.andThen_ok, run_sizeT hs]
        simp [h0, h24', zeroValue, typeInfo, hi, hzz] at e1' ⊢
        simp [e1', newRow]
      refine ⟨_, _, hrun, ?_⟩
      have hlen : arr'.toList = news := by
       rw [e5, ← e4]
       simp only [Nat.zero_mul, Nat.zero_add, List.take_zero, List.nil_append]
       rw [List.drop_of_length_le (by rw [Array.length_toList, hbs]; exact Nat.le_refl _)]
       simp
      rw [e4]
      exact Did.imm h ⟨rfl, rfl, rfl⟩ (by rw [hlen]; exact e3)
   ·cases he
 ·cases he

end

def frzR : List Bool → List RV → List RV
 | true :: fs, r :: rs => ⟨false, r.t.er, erD r.x⟩ :: frzR fs rs
 | false :: fs, r :: rs => r :: frzR fs rs
 | [], rs => rs
 | _, [] => []

theorem OwnSA.rep {S S' : Nat → Prop} {w : World} (hS : ∀ b, S b → S' b) {t : Ty} {cs : List Value} {xs : List t.D} {A : List (List Nat → Option Nat)} (hA : ∀ γ, γ ∈ A → ∀ p b, γ p = some b → S' b) (h : OwnSA S w t cs xs A) : Rep S' w (.sl t) cs xs := by
 rcases h with ⟨_, rfl, a, e⟩ | ⟨v, γ, eA, e, b, cap, arr, h0, ev, h1, h2, h3, h4, h5, h6⟩
 ·exact ⟨a, 0, e, Nat.le_refl _, fun i hi => by simp at hi⟩
 ·subst e; subst ev
  have hγ : ∀ p b, γ p = some b → S' b := hA γ (by rw [eA]; simp)
  refine ⟨some ⟨b, 0, none⟩, cap, rfl, h1, fun i hi => ?_⟩
  obtain ⟨es, k1, k2⟩ := h6.data hS hγ i hi
  refine ⟨⟨b, 0, none⟩, es, rfl, hγ [] b h0, fun j v hj => ?_, k2⟩
  rw [add_none, h3.cell]
  simpa using k1 j v hj

theorem OwnA.rep {S S' : Nat → Prop} {w : World} (hS : ∀ b, S b → S' b) : ∀ (t : Ty) {cs : List Value} {x : t.D} {A : List (List Nat → Option Nat)}, (∀ γ, γ ∈ A → ∀ p b, γ p = some b → S' b) → OwnA S w t cs x A → Rep S' w t cs x
 | .int _, _, _, _, _, h => h.2
 | .flt _, _, _, _, _, h => h.2
 | .bool, _, _, _, _, h => h.2
 | .str, _, _, _, _, h => h.2
 | .pair a b, _, _, _, hA, ⟨c1, c2, A1, A2, e, eA, h1, h2⟩ => by
  subst e; subst eA
  exact ⟨c1, c2, rfl, OwnA.rep hS a (fun γ hγ => hA γ (List.mem_append.2 (.inl hγ))) h1, OwnA.rep hS b (fun γ hγ => hA γ (List.mem_append.2 (.inr hγ))) h2⟩
 | .st t, _, _, _, hA, h => OwnA.rep hS t (cs := _) hA h
 | .sl t, _, _, _, hA, h => OwnSA.rep hS hA h
 | .bx t, _, xs, _, hA, ⟨γ, b, arr, eA, e, h0, h1, h2⟩ => by
  subst e
  have hγ : ∀ p b, γ p = some b → S' b := hA γ (by rw [eA]; simp)
  refine ⟨⟨b, 0, none⟩, rfl, fun i hi => ?_⟩
  obtain ⟨es, k1, k2⟩ := h2.data hS hγ i hi
  refine ⟨es, hγ [] b h0, fun j v hj => ?_, k2⟩
  rw [add_none, h1.cell]
  simpa using k1 j v hj
 | .own t, _, _, _, hA, h => OwnSA.rep hS hA h

theorem RVR.cases {S : Nat → Prop} {w : World} {r : RV} {v : Value} {F : List (List Nat → Option Nat)} (h : RVR S w r v F) : (r.fresh = true ∧ ∃ cs, ValOf r.t cs v ∧ OwnA S w r.t cs r.x F) ∨ (r.fresh = false ∧ F = [] ∧ ∃ cs, ValOf r.t cs v ∧ Rep S w r.t cs r.x) := by
 unfold RVR at h
 cases hf : r.fresh with
 | true => rw [hf] at h; exact .inl ⟨rfl, h⟩
 | false => rw [hf] at h; exact .inr ⟨rfl, h⟩

theorem RVR.fr {S : Nat → Prop} {w : World} {r : RV} {v : Value} {F : List (List Nat → Option Nat)} (hf : r.fresh = true) (h : ∃ cs, ValOf r.t cs v ∧ OwnA S w r.t cs r.x F) : RVR S w r v F := by
 unfold RVR; rw [hf]; exact h
theorem RVR.im {S : Nat → Prop} {w : World} {r : RV} {v : Value} (hf : r.fresh = false) (h : ∃ cs, ValOf r.t cs v ∧ Rep S w r.t cs r.x) : RVR S w r v [] := by
 unfold RVR; rw [hf]; exact ⟨rfl, h⟩

theorem RVR.up {S S' : Nat → Prop} {w : World} (hS : ∀ b, S b → S' b) {r : RV} {v : Value} {F : List (List Nat → Option Nat)} (h : RVR S w r v F) : RVR S' w r v F := by
 rcases h.cases with ⟨hf, cs, h1, h2⟩ | ⟨hf, rfl, cs, h1, h2⟩
 ·exact RVR.fr hf ⟨cs, h1, OwnA.mono hS _ h2⟩
 ·exact RVR.im hf ⟨cs, h1, Rep.keep (fun b hb => ⟨hS b hb, rfl⟩) _ _ _ h2⟩

theorem RVsR.up {S S' : Nat → Prop} {w : World} (hS : ∀ b, S b → S' b) : ∀ {rs : List RV} {vs : List Value} {F : List (List Nat → Option Nat)}, RVsR S w rs vs F → RVsR S' w rs vs F
 | [], [], _, h => h
 | _ :: _, _ :: _, _, ⟨F1, F2, e, h1, h2⟩ => ⟨F1, F2, e, h1.up hS, RVsR.up hS h2⟩
 | [], _ :: _, _, h => h.elim
 | _ :: _, [], _, h => h.elim

def AwayA (A A' : List (List Nat → Option Nat)) (b : Nat) : Prop := (∃ γ, γ ∈ A ∧ ∃ p, γ p = some b) ∧ ¬ ∃ γ, γ ∈ A' ∧ ∃ p, γ p = some b

theorem InjA.app {A1 A2 : List (List Nat → Option Nat)} (h : InjA (A1 ++ A2)) : InjA A1 ∧ InjA A2 ∧ ∀ γ γ' p q b, γ ∈ A1 → γ' ∈ A2 → γ p = some b → γ' q = some b → False := by
 obtain ⟨h1, h2⟩ := h
 obtain ⟨k1, k2, k3⟩ := List.pairwise_append.1 h1
 exact ⟨⟨k1, fun γ hγ => h2 γ (List.mem_append.2 (.inl hγ))⟩, ⟨k2, fun γ hγ => h2 γ (List.mem_append.2 (.inr hγ))⟩, fun γ γ' p q b m1 m2 e1 e2 => k3 γ m1 γ' m2 p q b e1 e2⟩

theorem valOf_er {t : Ty} {cs : List Value} {v : Value} (h : ValOf t cs v) : ValOf t.er cs v := by
 cases t <;> exact h

theorem RVsR.frz {w : World} : ∀ {fs : List Bool} {rs : List RV} {vs : List Value} {A : List (List Nat → Option Nat)} {S : Nat → Prop}, RVsR S w rs vs A → InjA A → ∃ A', A'.Sublist A ∧ ∀ S' : Nat → Prop, (∀ b, S b → S' b) → (∀ b, AwayA A A' b → S' b) → RVsR S' w (frzR fs rs) vs A' := by
 intro fs
 induction fs with
 | nil =>
  intro rs vs A S h _
  exact ⟨A, List.Sublist.refl _, fun S' hS _ => by cases rs <;> exact RVsR.up hS h⟩
 | cons f fs ih =>
  intro rs vs A S h hnd
  cases rs with
  | nil => cases f <;> exact ⟨A, List.Sublist.refl _, fun S' hS _ => RVsR.up hS h⟩
  | cons r rs =>
   cases vs with
   | nil => exact h.elim
   | cons v vs =>
    obtain ⟨A1, A2, e, h1, h2⟩ := h
    subst e
    obtain ⟨hn1, hn2, hdis⟩ := hnd.app
    obtain ⟨A', hs, hk⟩ := ih h2 hn2
    cases f with
    | true =>
     refine ⟨A', hs.trans (List.sublist_append_right _ _), fun S' hS hF => ⟨[], A', rfl, ?_, hk S' hS fun b ⟨⟨γ, hγ, p, hp⟩, hn⟩ => hF b ⟨⟨γ, List.mem_append.2 (.inr hγ), p, hp⟩, hn⟩⟩⟩
     rcases h1.cases with ⟨_, cs, q1, q2⟩ | ⟨_, _, cs, q1, q2⟩
     ·exact RVR.im (r := ⟨false, r.t.er, erD r.x⟩) rfl ⟨cs, valOf_er q1, Rep_er _ _ _ (OwnA.rep hS r.t (fun γ hγ p b hp => hF b ⟨⟨γ, List.mem_append.2 (.inl hγ), p, hp⟩, fun ⟨γ', hγ', q, hq⟩ => hdis γ γ' p q b hγ (hs.subset hγ') hp hq⟩) q2)⟩
     ·exact RVR.im (r := ⟨false, r.t.er, erD r.x⟩) rfl ⟨cs, valOf_er q1, Rep_er _ _ _ (Rep.keep (fun b hb => ⟨hS b hb, rfl⟩) r.t cs _ q2)⟩
    | false =>
     refine ⟨A1 ++ A', (List.Sublist.refl A1).append hs, fun S' hS hF => ⟨A1, A', rfl, h1.up hS, hk S' hS fun b ⟨⟨γ, hγ, p, hp⟩, hn⟩ => hF b ⟨⟨γ, List.mem_append.2 (.inr hγ), p, hp⟩, fun ⟨γ', hγ', q, hq⟩ => ?_⟩⟩⟩
     rcases List.mem_append.1 hγ' with hm | hm
     ·exact hdis γ' γ q p b hm hγ hq hp
     ·exact hn ⟨γ', hm, q, hq⟩

theorem OutsR.up {S S' : Nat → Prop} {w : World} (hS : ∀ b, S b → S' b) : ∀ {as : List Arg} {vs : List Value} {Fs : List (List (List Nat → Option Nat))} {os : List TD}, OutsR S w as vs Fs os → OutsR S' w as vs Fs os
 | [], [], [], [], h => h
 | .own t x :: as, v :: vs, F :: Fs, o :: os, ⟨⟨e, cs, h1, h2, h3⟩, h⟩ => ⟨⟨e, cs, h1, OwnA.mono hS t h2, h3⟩, OutsR.up hS h⟩
 | .imm _ _ :: as, _ :: vs, _ :: Fs, os, h => OutsR.up (as := as) (vs := vs) (Fs := Fs) (os := os) hS h
 | .pimm _ _ :: as, _ :: vs, _ :: Fs, os, h => OutsR.up (as := as) (vs := vs) (Fs := Fs) (os := os) hS h
 | .fn _ :: as, _ :: vs, _ :: Fs, os, h => OutsR.up (as := as) (vs := vs) (Fs := Fs) (os := os) hS h
 | .clo _ _ _ :: as, _ :: vs, _ :: Fs, os, h => OutsR.up (as := as) (vs := vs) (Fs := Fs) (os := os) hS h
 | .mv _ _ :: as, _ :: vs, _ :: Fs, os, h => OutsR.up (as := as) (vs := vs) (Fs := Fs) (os := os) hS h
 | .nl :: as, _ :: vs, _ :: Fs, os, h => OutsR.up (as := as) (vs := vs) (Fs := Fs) (os := os) hS h
 | [], [], [], _ :: _, h => h.elim
 | [], [], _ :: _, _, h => h.elim
 | [], _ :: _, _, _, h => h.elim
 | .own _ _ :: _, [], _, _, h => h.elim
 | .own _ _ :: _, _ :: _, [], _, h => h.elim
 | .own _ _ :: _, _ :: _, _ :: _, [], h => h.elim
 | .imm _ _ :: _, [], _, _, h => h.elim
 | .imm _ _ :: _, _ :: _, [], _, h => h.elim
 | .pimm _ _ :: _, [], _, _, h => h.elim
 | .pimm _ _ :: _, _ :: _, [], _, h => h.elim
 | .fn _ :: _, [], _, _, h => h.elim
 | .clo _ _ _ :: _, [], _, _, h => h.elim
 | .fn _ :: _, _ :: _, [], _, h => h.elim
 | .clo _ _ _ :: _, _ :: _, [], _, h => h.elim
 | .mv _ _ :: _, [], _, _, h => h.elim
 | .mv _ _ :: _, _ :: _, [], _, h => h.elim
 | .nl :: _, [], _, _, h => h.elim
 | .nl :: _, _ :: _, [], _, h => h.elim

def noMv : List Arg → Bool
 | [] => true
 | .mv _ _ :: _ => false
 | _ :: as => noMv as

theorem MvB.none {b : Nat} : ∀ {as : List Arg} {Fs : List (List (List Nat → Option Nat))}, noMv as = true → ¬ MvB b as Fs
 | [], _, _, h => by simp [MvB] at h
 | _ :: _, [], _, h => by simp [MvB] at h
 | a :: as, F :: Fs, h, hb => by
  cases a with
  | mv t x => cases h
  | _ => exact MvB.none (as := as) (Fs := Fs) h hb

theorem CallOK.frz {P : Program} {f : FuncId} {args : List Arg} {rs : List RV} {outs : List TD} (fs : List Bool) (hm : noMv args = true) (h : CallOK P f args rs outs) : CallOK P f args (frzR fs rs) outs := by
 refine ⟨h.1, fun w S vals As F hB hI h1 h3 h4 hgl => (h.2 w S vals As F hB hI h1 h3 h4 hgl).mono fun e w' ⟨v, A, F', e1, hbl, hnd, ⟨vs, hr, hv⟩, hF, hk, ho⟩ => ?_⟩
 obtain ⟨A', hs, hfz⟩ := hr.frz (fs := fs) hnd
 obtain ⟨F2, hB2⟩ := blkA_exists (n := w'.heap.size) (A := A') (fun γ hγ p b hp => (hF b ((hbl b).2 ⟨γ, hs.subset hγ, p, hp⟩)).2)
 have hsub : ∀ b, b ∈ F2 → b ∈ F' := fun b hb => by
  obtain ⟨γ, hγ, hp⟩ := (hB2 b).1 hb
  exact (hbl b).2 ⟨γ, hs.subset hγ, hp⟩
 have hmono : ∀ b, Behind S w w' F' b → Behind S w w' F2 b := fun b ⟨q1, q2, q3⟩ => ⟨q1, q2, fun hm => q3 (hsub b hm)⟩
 refine ⟨v, A', F2, e1, hB2, ⟨hnd.1.sublist hs, fun γ hγ => hnd.2 γ (hs.subset hγ)⟩, ⟨vs, hfz _ hmono fun b ⟨hb, hn⟩ => ?_, hv⟩, fun b hb => hF b (hsub b hb), hk, ho.up hmono⟩
 have hb' := (hbl b).2 hb
 exact ⟨(hF b hb').2, fun hlt => by
  rcases (hF b hb').1 with q | q
  ·omega
  ·exact absurd q (MvB.none hm), fun hm => hn ((hB2 b).1 hm)⟩

end Go.Ide


/-
 Noughts appended to an empty slice.
-/
namespace Go.Ide

def iAppendZ (P : Program) (nx : Nat) (T T' : TypeId) (t : Ty) (s x : IVal) : Option Eff :=
 match P.underlying T, P.underlying T', s, x with
 | some (.slice e), some (.int _), .one .nilS, .one (.dat (.int _) n) => (match P.info? e, zeroD P e t with
  | some i, some z => bif Nat.beq i.size t.size && Nat.ble i.bytes 32768 then
    some ⟨.one (.all nx), [(nx, .seq t (List.replicate (Int.toNat n) z))], [], [(0 : Int) ≤ n ∧ n ≤ 4294967296]⟩ else none
  | _, _ => none)
 | _, _, _, _ => none

section
variable {cx : Cx} {g : GM} {st : St} {a : Act} {w : World} {P : Program}

theorem run_appz_grow {t u ty e : TypeId} {i : TypeInfo} {z : Value} {ku k : IntKind} (ht : P.underlying t = some (.slice e)) (hu : P.underlying u = some (.int ku)) (hi : P.info? e = some i) (hz : i.zero = some z)
  {base : Option Addr} {n : Nat} (hn : 0 < n) (hsz : 0 < i.size) (hle : n ≤ 4294967296) (hby : i.bytes ≤ 32768) :
  (Builtin.append_ #[t, u] ty #[.slice base 0 0, .int k (n : Int)]).run P w =
   .ok (.slice (some ⟨w.heap.size, 0, none⟩) n (grownCap w n 0 e))
    (w.drew.alloc (.cells (Builtin.zeroCells z.cells n ++ Builtin.zeroCells z.cells (grownCap w n 0 e - n)) e)) := by
 have hb : n * i.bytes ≤ 140737488355328 := by
  calc n * i.bytes ≤ 4294967296 * 32768 := Nat.mul_le_mul hle hby
   _ = 140737488355328 := by decide
 have wl : IntKind.i64.wrap (n : Int) = n := by rw [IntKind.wrap_i64]; omega
 have n0 : ¬ ((n : Int) < 0) := by omega
 have hb2 : ¬ (281474976710656 < (n : Int) * (i.bytes : Int)) := by
  rw [← Int.natCast_mul]; omega
 have hroom : ¬ (n ≤ 0) := by omega
 have hroom' : ¬ (n = 0) := by omega
 have h63' : ¬ (9223372036854775807 < (n : Int)) := by omega
 have h48 := growslice_fits (old := 0) (by omega) hb
 have h48' : ¬ (281474976710656 < Builtin.nextslicecap n 0 * i.bytes) := by omega
 have hne : ¬ (n = 0 ∨ i.size = 0) := by omega
 have hne2 : ¬ (n * i.size = 0) := by rw [Nat.mul_eq_zero]; exact hne
 have hfo : (Builtin.firstCells i.size 0 (.slice base 0 0)).run P w.drew = .ok #[] w.drew := by
  cases base <;> simp [Builtin.firstCells, loadCells, loadCellsFrom]
 simp [Builtin.append_, run_underlying ht, run_underlying hu, sizeOf, typeInfo, zeroValue, hi, hz, asInt, asIntOf, wl, n0, hb2, hroom', h63', h48', hne, hne2, Question.forced, hfo, newRow, grownCap]

theorem run_appz_none {t u ty e : TypeId} {i : TypeInfo} {ku k : IntKind} (ht : P.underlying t = some (.slice e)) (hu : P.underlying u = some (.int ku)) (hi : P.info? e = some i) {base : Option Addr} :
  (Builtin.append_ #[t, u] ty #[.slice base 0 0, .int k 0]).run P w = .ok (.slice base 0 0) w := by
 have wl : IntKind.i64.wrap 0 = 0 := by rw [IntKind.wrap_i64]; omega
 cases base <;> simp [Builtin.append_, run_underlying ht, run_underlying hu, sizeOf, typeInfo, hi, asInt, asIntOf, wl, storeCells]

theorem iAppendZ_sound {T T' : TypeId} {ty : TypeId} {t : Ty} {s x : IVal} {e : Eff} {sv xv : Value} (h : Sim cx g st a w) (hw : Fresh st.mem e.new) (he : iAppendZ cx.P st.nx T T' t s x = some e) (hc : AllP e.cond)
  (hs : VR g st.mem (cx.safe g st.mem w) w s sv) (hx : VR g st.mem (cx.safe g st.mem w) w x xv) : Runs cx st a w (Builtin.append_ #[T, T'] ty #[sv, xv]) e := by
 unfold iAppendZ at he
 split at he
 ·rename_i el ku k n hu hu'
  have hxv := dat_int (g := g) (m := st.mem) (S := cx.safe g st.mem w) (w := w) hx
  subst hxv
  obtain ⟨ab, hsv⟩ := hs
  subst hsv
  split at he
  ·rename_i i z0 hi hz0
   cases hb : (Nat.beq i.size t.size && Nat.ble i.bytes 32768) with
   | false => simp [hb] at he
   | true =>
    rw [hb] at he
    simp only [cond_true] at he
    simp only [Bool.and_eq_true] at hb
    have hsz := beq_of hb.1
    have hby := ble_of hb.2
    injection he with he
    subst he
    obtain ⟨⟨h0, h1⟩, _⟩ := hc
    obtain ⟨q, rfl⟩ := Int.eq_ofNat_of_zero_le (show (0 : Int) ≤ n from h0)
    have hq : q ≤ 4294967296 := by have : ((q : Nat) : Int) ≤ 4294967296 := h1; omega
    unfold zeroD at hz0
    rw [hi] at hz0
    cases hzz : i.zero with
    | none => simp [hzz] at hz0
    | some z =>
     simp only [hzz] at hz0
     have hrep : ∀ (S' : Nat → Prop) (w' : World) (γ : List Nat → Option Nat), (∀ p, γ p = none) → ElR S' w' t γ 0 z.cells.toList z0 := fun S' w' γ hγ => by
      split at hz0
      ·rename_i htop
       obtain ⟨cs, hval, hrep⟩ := vdat_rep (g := ⟨fun _ _ => none⟩) (m := []) (S := S') (S2 := S') (fun _ h => h) ReadM.nil hz0 (cstV_VR (w := w') z)
       rw [valOf_cells hval hrep]; exact ElR.of_rep t htop hrep
      ·split at hz0
       ·rename_i hok
        split at hz0
        ·rename_i x hx
         injection hz0 with hz0
         subst hz0
         obtain ⟨v1, v2, e, h1, h2⟩ := implO_nil (g := ⟨fun _ _ => none⟩) (m := []) (S := S') (w := w') (γ := γ) (o := 0) t hx (cstV_cells z hok) hγ
         have : v2 = [] := by cases v2 with | nil => rfl | cons => exact h2.elim
         subst this
         rw [List.append_nil] at e
         rw [e]; exact h1
        ·cases hz0
       ·cases hz0
     have hzlen : z.cells.size = t.size := by rw [← Array.length_toList]; exact ElR.len t (hrep (fun _ => True) w (fun _ => none) (fun _ => rfl))
     have hzp := t.size_pos
     simp only [Int.toNat_natCast]
     by_cases hq0 : q = 0
     ·subst hq0
      refine ⟨_, _, run_appz_none (P := cx.P) hu hu' hi, ?_⟩
      exact Did.newAt (G := []) (up := []) (gk := none) h hw ⟨rfl, rfl, rfl⟩ (.inl rfl) (KeepF.refl _ _) (.inl rfl) (fun b hb => by cases hb) (fun b hb => by cases hb) (fun S' hS => rfl) ⟨ab, rfl⟩
     ·have hge := grownCap_ge w q 0 el
      have hmx := grownCap_le_maxLen w q 0 el (by unfold maxLen; omega)
      refine ⟨_, _, run_appz_grow (P := cx.P) hu hu' hi hzz (by omega) (by omega) hq hby, ?_⟩
      have hblk := blk.new w.drew (Builtin.zeroCells z.cells q ++ Builtin.zeroCells z.cells (grownCap w q 0 el - q)) el
      refine Did.newAt (G := []) (up := []) (gk := some w.heap.size) h hw ⟨rfl, rfl, rfl⟩ (.inl rfl) ((KeepF.drew [] w).trans (KeepF.alloc _ _ _)) (.inl rfl) (fun b hb => by injection hb with hb; left; omega) (fun b hb => by injection hb with hb; subst hb; exact hblk.lt) (fun S' hS => ⟨_, hblk, ?_⟩) ?_
      ·intro i' hi'
       simp only [List.length_replicate] at hi'
       refine ⟨z.cells.toList, fun j u hj => ?_, ?_⟩
       ·have hj' : j < t.size := by rw [← hzlen, ← Array.length_toList]; exact (List.getElem?_eq_some_iff.1 hj).1
        have hlt : i' * t.size + j < q * t.size := by
         have : (i' + 1) * t.size ≤ q * t.size := Nat.mul_le_mul_right _ (by omega)
         rw [Nat.add_mul] at this
         omega
        have hmod : (i' * t.size + j) % t.size = j := by rw [Nat.add_comm, Nat.mul_comm, Nat.add_mul_mod_self_left]; exact Nat.mod_eq_of_lt hj'
        rw [Array.getElem?_append_left (by rw [size_zeroCells, hzlen]; exact hlt)]
        have hjz : j < z.cells.size := by rw [hzlen]; exact hj'
        simp only [Builtin.zeroCells, hzlen, Array.getElem?_map, Array.getElem?_range, hlt, if_true, Option.map_some, hmod]
        rw [getElem!_pos z.cells j hjz, ← Array.getElem?_eq_getElem hjz, ← Array.getElem?_toList]
        exact hj
       ·simp only [List.getElem_replicate]
        exact hrep _ _ _ (fun p => rfl)
      ·refine ⟨grownCap w q 0 el, _, by simp, by simpa using hge, hblk, ?_, hmx⟩
       simp only [Array.size_append, size_zeroCells, hzlen, ← Nat.add_mul]
       exact Nat.mul_le_mul_right _ (by omega)
  ·cases he
 ·cases he

end
end Go.Ide


/-
 An element that is opened and closed.
-/
namespace Go.Ide

theorem All2.of_get {α β : Type} {R : α → β → Prop} : ∀ {as : List α} {bs : List β}, as.length = bs.length → (∀ (j : Nat) (a : α) (b : β), as[j]? = some a → bs[j]? = some b → R a b) → All2 R as bs
 | [], [], _, _ => trivial
 | a :: as, b :: bs, hl, h => ⟨h 0 a b rfl rfl, All2.of_get (by simpa using hl) fun j a' b' h1 h2 => h (j + 1) a' b' (by simpa using h1) (by simpa using h2)⟩
 | [], _ :: _, hl, _ => by simp at hl
 | _ :: _, [], hl, _ => by simp at hl

theorem All2.imp_mem {α β : Type} {R R' : α → β → Prop} : ∀ {as : List α} {bs : List β}, (∀ a, a ∈ as → ∀ b, R a b → R' a b) → All2 R as bs → All2 R' as bs
 | [], [], _, _ => trivial
 | a :: as, b :: bs, h, hr => ⟨h a (by simp) b hr.1, All2.imp_mem (fun a' ha' => h a' (List.mem_cons_of_mem _ ha')) hr.2⟩
 | [], _ :: _, _, hr => hr.elim
 | _ :: _, [], _, hr => hr.elim

theorem keysFrom_fst : ∀ (l : List Chunk) (n : Nat), (keysFrom n l).map Prod.fst = List.range' n l.length
 | [], _ => rfl
 | _ :: r, n => by simp [keysFrom, keysFrom_fst r (n + 1), List.range'_succ]

theorem explO_len : ∀ (t : Ty) (x : t.D) (n o : Nat), (explO t x n).2.length = (ownOffs t o).length
 | .pair a b, x, n, o => by simp only [explO, ownOffs, List.length_append, explO_len a _ _ o, explO_len b _ _ (o + a.size)]
 | .st t, x, n, o => explO_len t x n o
 | .own _, _, _, _ => rfl
 | .int _, _, _, _ => rfl
 | .flt _, _, _, _ => rfl
 | .bool, _, _, _ => rfl
 | .str, _, _, _ => rfl
 | .sl _, _, _, _ => rfl
 | .bx _, _, _, _ => rfl

theorem ownOffs_range : ∀ (t : Ty) (o q : Nat), q ∈ ownOffs t o → o ≤ q ∧ q < o + t.size
 | .pair a b, o, q, h => by
  rcases List.mem_append.1 (show q ∈ ownOffs a o ++ ownOffs b (o + a.size) from h) with h | h
  ·have := ownOffs_range a o q h; simp only [Ty.size]; omega
  ·have := ownOffs_range b (o + a.size) q h; simp only [Ty.size]; omega
 | .st t, o, q, h => ownOffs_range t o q h
 | .own _, o, q, h => by simp [ownOffs] at h; subst h; simp [Ty.size]
 | .int _, _, _, h => by simp [ownOffs] at h
 | .flt _, _, _, h => by simp [ownOffs] at h
 | .bool, _, _, h => by simp [ownOffs] at h
 | .str, _, _, h => by simp [ownOffs] at h
 | .sl _, _, _, h => by simp [ownOffs] at h
 | .bx _, _, _, h => by simp [ownOffs] at h

theorem ownOffs_nodup : ∀ (t : Ty) (o : Nat), (ownOffs t o).Nodup
 | .pair a b, o => by
  show (ownOffs a o ++ ownOffs b (o + a.size)).Nodup
  rw [List.nodup_append]
  refine ⟨ownOffs_nodup a o, ownOffs_nodup b _, fun q hq q' hq' e => ?_⟩
  have := ownOffs_range a o q hq
  have := ownOffs_range b (o + a.size) q' hq'
  omega
 | .st t, o => ownOffs_nodup t o
 | .own _, o => by simp [ownOffs]
 | .int _, _ => by simp [ownOffs]
 | .flt _, _ => by simp [ownOffs]
 | .bool, _ => by simp [ownOffs]
 | .str, _ => by simp [ownOffs]
 | .sl _, _ => by simp [ownOffs]
 | .bx _, _ => by simp [ownOffs]

section
variable {S : Nat → Prop} {w : World}

theorem explO_rel : ∀ (t : Ty) {γ : List Nat → Option Nat} {o : Nat} {cs : List Value} {x : t.D} (n : Nat), ElR S w t γ o cs x → ∀ (g' : GM) (m' : Mem), (∀ j ch, (explO t x n).2[j]? = some ch → lk (n + j) m' = some ch) →
  (∀ j q, (ownOffs t o)[j]? = some q → g'.f (n + j) = fun p => γ (q :: p)) →
  All2 (CR g' m' S w) (explO t x n).1 cs ∧ ∀ j ch, (explO t x n).2[j]? = some ch → (∃ t' xs', ch = .seq t' xs') ∧ ChR g' m' S w (g'.f (n + j)) ch
 | .pair a b, γ, o, _, x, n, ⟨c1, c2, e, h1, h2⟩ => by
  subst e
  intro g' m' hm hg
  have la := explO_len a x.1 n o
  obtain ⟨p1, q1⟩ := explO_rel a n h1 g' m' (fun j ch hj => hm j ch (by
    simp only [explO]
    rw [List.getElem?_append_left (List.getElem?_eq_some_iff.1 hj).1]; exact hj)) (fun j q hj => hg j q (by
    show (ownOffs a o ++ ownOffs b (o + a.size))[j]? = _
    rw [List.getElem?_append_left (List.getElem?_eq_some_iff.1 hj).1]; exact hj))
  obtain ⟨p2, q2⟩ := explO_rel b (n + (explO a x.1 n).2.length) h2 g' m' (fun j ch hj => by
    rw [Nat.add_assoc]
    refine hm _ ch ?_
    simp only [explO]
    rw [List.getElem?_append_right (by omega)]
    simpa using hj) (fun j q hj => by
    rw [Nat.add_assoc]
    refine hg _ q ?_
    show (ownOffs a o ++ ownOffs b (o + a.size))[_]? = _
    rw [List.getElem?_append_right (by omega), la]
    simpa using hj)
  refine ⟨p1.append p2, fun j ch hj => ?_⟩
  simp only [explO] at hj
  by_cases hlt : j < (explO a x.1 n).2.length
  ·rw [List.getElem?_append_left hlt] at hj
   exact q1 j ch hj
  ·rw [List.getElem?_append_right (by omega)] at hj
   have := q2 _ ch hj
   rw [Nat.add_assoc, show (explO a x.1 n).2.length + (j - (explO a x.1 n).2.length) = j from by omega] at this
   exact this
 | .st t, γ, o, cs, x, n, h => explO_rel t (o := o) (cs := cs) (x := x) n h
 | .own t, γ, o, cs, xs, n, ⟨v, e, ha, hr⟩ => by
  subst e
  intro g' m' hm hg
  have hl := hm 0 _ rfl
  have hgn := hg 0 o rfl
  rw [Nat.add_zero] at hl hgn
  have h0 : g' n = γ [o] := congrFun hgn []
  refine ⟨⟨⟨by rw [hl]; simp, ha.one, fun t' xs' hl' => ?_⟩, trivial⟩, fun j ch hj => ?_⟩
  ·have e := SeqAt.toSeq hl hl'
   rw [hl] at e
   injection e with e
   injection e with e1 e2
   subst e1
   have e2 := eq_of_heq e2
   subst e2
   rw [h0]; exact ha
  ·have : j = 0 := by
    have := (List.getElem?_eq_some_iff.1 hj).1
    simp [explO] at this; exact this
   subst this
   simp [explO] at hj
   subst hj
   refine ⟨⟨t, xs, rfl⟩, ?_⟩
   rw [Nat.add_zero, hgn]
   unfold ChR
   cases hγ : γ [o] with
   | none => rw [hγ] at hr; simp only [hγ]; exact List.eq_nil_of_length_eq_zero hr
   | some b => rw [hγ] at hr; obtain ⟨arr, hb, hi⟩ := hr; simp only [hγ]; exact ⟨arr, hb, hi⟩
 | .int k, _, _, cs, x, n, h => fun g' m' _ _ => by
  have h : cs = [.int k x] := h
  subst h
  exact ⟨⟨rfl, trivial⟩, fun j ch hj => by simp [explO] at hj⟩
 | .flt k, _, _, cs, x, n, h => fun g' m' _ _ => by
  obtain ⟨b, e, h⟩ := (h : ∃ b, cs = [Value.float k b] ∧ fcanon k b = x)
  subst e
  exact ⟨⟨⟨b, rfl, h⟩, trivial⟩, fun j ch hj => by simp [explO] at hj⟩
 | .bool, _, _, cs, x, n, h => fun g' m' _ _ => by
  have h : cs = [.bool x] := h
  subst h
  exact ⟨⟨rfl, trivial⟩, fun j ch hj => by simp [explO] at hj⟩
 | .str, _, _, cs, x, n, h => fun g' m' _ _ => by
  have h : cs = [.string ⟨x.toArray⟩] := h
  subst h
  exact ⟨⟨rfl, trivial⟩, fun j ch hj => by simp [explO] at hj⟩
 | .sl t, _, _, cs, x, n, h => fun g' m' _ _ => by
  have hl := Rep.len (.sl t) cs x h
  have h : Rep S w (.sl t) cs x := h
  match cs, hl, h with
  | [v], _, h => exact ⟨⟨h, trivial⟩, fun j ch hj => by simp [explO] at hj⟩
 | .bx t, _, _, cs, x, n, h => fun g' m' _ _ => by
  have hl := Rep.len (.bx t) cs x h
  have h : Rep S w (.bx t) cs x := h
  match cs, hl, h with
  | [v], _, h => exact ⟨⟨h, trivial⟩, fun j ch hj => by simp [explO] at hj⟩

end

def opnU (c i nx : Nat) (t : Ty) (xs : List t.D) : Mem :=
 [(c, .opn t xs i (explO t (xs.getD i t.dflt) nx).1 ((keysFrom nx (explO t (xs.getD i t.dflt) nx).2).map Prod.fst))]

def opnN (i nx : Nat) (t : Ty) (xs : List t.D) : Mem := keysFrom nx (explO t (xs.getD i t.dflt) nx).2

section
variable {cx : Cx} {g : GM} {st : St} {a : Act} {w : World}

theorem Sim.openAt {c i : Nat} {t : Ty} {xs : List t.D} (h : Sim cx g st a w) (hl : lk c st.mem = some (.seq t xs)) (hi : i < xs.length) (hw : Fresh st.mem (opnN i st.nx t xs)) :
  ∃ g', Sim cx g' (st.setMem (opnU c i st.nx t xs ++ opnN i st.nx t xs ++ st.mem) (st.nx + (opnN i st.nx t xs).length)) a w ∧
   Stays g g' st.mem (opnU c i st.nx t xs ++ opnN i st.nx t xs ++ st.mem) (cx.safe g st.mem w) (cx.safe g' (opnU c i st.nx t xs ++ opnN i st.nx t xs ++ st.mem) w) w w := by
 let chs := (explO t (xs.getD i t.dflt) st.nx).2
 let offs := ownOffs t 0
 have hal : chs.length = offs.length := explO_len t _ _ 0
 let g' : GM := ⟨fun k => if st.nx ≤ k then (match offs[k - st.nx]? with | some q => fun p => g.f c (i :: q :: p) | none => g.f k) else g.f k⟩
 have hnewkey : ∀ j, j < chs.length → lk (st.nx + j) st.mem = none := fun j hj => by
  have hin : (st.nx + j, chs[j]) ∈ opnN i st.nx t xs :=
   lk_mem (by show lk _ (keysFrom st.nx chs) = _; rw [lk_keysFrom, if_pos (by omega), show st.nx + j - st.nx = j from by omega]; exact List.getElem?_eq_getElem hj)
  exact hw _ hin
 let m' : Mem := opnU c i st.nx t xs ++ opnN i st.nx t xs ++ st.mem
 have hold : ∀ k, lk k st.mem ≠ none → st.nx ≤ k → chs.length ≤ k - st.nx := fun k hne hle => by
  rcases Nat.lt_or_ge (k - st.nx) chs.length with hlt | hge
  ·exact absurd (by have := hnewkey _ hlt; rwa [show st.nx + (k - st.nx) = k from by omega] at this) hne
  ·exact hge
 have hg'old : ∀ k, lk k st.mem ≠ none → g'.f k = g.f k := fun k hne => by
  show (if st.nx ≤ k then _ else _) = _
  by_cases hle : st.nx ≤ k
  ·rw [if_pos hle, List.getElem?_eq_none (by rw [← hal]; exact hold k hne hle)]
  ·rw [if_neg hle]
 have hg'new : ∀ j q, offs[j]? = some q → g'.f (st.nx + j) = fun p => g.f c (i :: q :: p) := fun j q hj => by
  show (if st.nx ≤ st.nx + j then _ else _) = _
  rw [if_pos (by omega), show st.nx + j - st.nx = j from by omega, hj]
 have hcne : lk c st.mem ≠ none := by rw [hl]; simp
 have hm'c : lk c m' = some (.opn t xs i (explO t (xs.getD i t.dflt) st.nx).1 ((keysFrom st.nx chs).map Prod.fst)) := by
  show lk c (_ ++ _ ++ _) = _
  rw [lk_append, lk_append]
  show (((lk c [(c, _)]).or _).or _) = _
  rw [lk_cons, if_pos rfl]
  rfl
 have hm'new : ∀ j ch, chs[j]? = some ch → lk (st.nx + j) m' = some ch := fun j ch hj => by
  have hne : st.nx + j ≠ c := fun e => hcne (by rw [← e]; exact hnewkey j (List.getElem?_eq_some_iff.1 hj).1)
  show lk _ (_ ++ _ ++ _) = _
  rw [lk_append, lk_append]
  show (((lk _ [(c, _)]).or (lk _ (keysFrom st.nx chs))).or _) = _
  rw [lk_cons, if_neg hne, lk_nil, lk_keysFrom, if_pos (by omega), show st.nx + j - st.nx = j from by omega, hj]
  rfl
 have hm'old : ∀ k, k ≠ c → lk k st.mem ≠ none → lk k m' = lk k st.mem := fun k hk hne => by
  have hkf : lk k (keysFrom st.nx chs) = none := by
   rw [lk_keysFrom]
   by_cases hle : st.nx ≤ k
   ·rw [if_pos hle]; exact List.getElem?_eq_none (hold k hne hle)
   ·rw [if_neg hle]
  show lk _ (_ ++ _ ++ _) = _
  rw [lk_append, lk_append]
  show (((lk _ [(c, _)]).or (lk _ (keysFrom st.nx chs))).or _) = _
  rw [lk_cons, if_neg hk, lk_nil, hkf]
  simp
 have hm'inv : ∀ k ch, lk k m' = some ch → lk k st.mem = none → ∃ j, k = st.nx + j ∧ chs[j]? = some ch := fun k ch hk hnone => by
  have hne : k ≠ c := fun e => hcne (by rw [← e]; exact hnone)
  have hk : lk k (opnU c i st.nx t xs ++ opnN i st.nx t xs ++ st.mem) = some ch := hk
  rw [lk_append, lk_append] at hk
  have hk : (((lk k [(c, _)]).or (lk k (keysFrom st.nx chs))).or (lk k st.mem)) = some ch := hk
  rw [lk_cons, if_neg hne, lk_nil, lk_keysFrom, hnone] at hk
  by_cases hle : st.nx ≤ k
  ·rw [if_pos hle] at hk
   refine ⟨k - st.nx, by omega, ?_⟩
   cases hx : chs[k - st.nx]? with
   | none => rw [hx] at hk; simp at hk
   | some c0 => rw [hx] at hk; simpa using hk
  ·rw [if_neg hle] at hk; simp at hk
 have hoff : ∀ j ch, chs[j]? = some ch → ∃ q, offs[j]? = some q := fun j ch hj =>
  ⟨offs[j]'(by rw [← hal]; exact (List.getElem?_eq_some_iff.1 hj).1), List.getElem?_eq_getElem _⟩
 have hsafe : ∀ b, cx.safe g st.mem w b → cx.safe g' m' w b := fun b ⟨h1, h2, h3⟩ => by
  refine ⟨h1, h2, ?_⟩
  rintro ⟨k, p, ch, hk, hn, hg⟩
  cases ho : lk k st.mem with
  | none =>
   obtain ⟨j, e, hj⟩ := hm'inv k ch hk ho
   subst e
   obtain ⟨q, hq⟩ := hoff j ch hj
   rw [hg'new j q hq] at hg
   exact h3 ⟨c, _, _, hl, trivial, hg⟩
  | some c0 =>
   rw [hg'old k (by rw [ho]; simp)] at hg
   by_cases e : k = c
   ·subst e
    exact h3 ⟨k, p, _, hl, trivial, hg⟩
   ·rw [hm'old k e (by rw [ho]; simp), ho] at hk
    injection hk with hk
    exact h3 ⟨k, p, c0, ho, by rw [hk]; exact hn, hg⟩
 obtain ⟨G, hG⟩ := blkA_exists (n := w.heap.size) (A := [fun p => g.f c (i :: p)]) (fun γ hγ p b hp => by
  simp at hγ; subst hγ; exact h.lt c _ _ b hl trivial hp)
 have hGi : ∀ b, b ∈ G ↔ ∃ p, g.f c (i :: p) = some b := fun b => by rw [hG b]; simp
 have hch := h.mem c _ hl
 unfold ChR at hch
 cases hgc : g.f c [] with
 | none => rw [hgc] at hch; have hn : xs = [] := hch; subst hn; simp at hi
 | some bc =>
 rw [hgc] at hch
 obtain ⟨arr, hblk, hels⟩ := hch
 obtain ⟨es0, hl0, hc0, hr0⟩ := hels.at_ hi
 obtain ⟨hcells, hchs⟩ := explO_rel t st.nx (ElR.keep (fun b hb => ⟨hsafe b hb, rfl⟩) t (fun _ _ _ => rfl) hr0) g' m' hm'new (fun j q hj => hg'new j q hj)
 have T : Turn cx g g' st.mem m' w w G := by
  refine ⟨KeepF.refl _ _, fun b hb => ?_, hg'old, fun k ch ho => ?_, fun k ch ho hk' => ?_⟩
  ·obtain ⟨p, hp⟩ := (hGi b).1 hb
   exact ⟨c, _, _, hl, trivial, hp⟩
  ·by_cases e : k = c
   ·subst e
    rw [hl] at ho
    injection ho with ho
    subst ho
    refine .inr (.inr ⟨by simp, _, hm'c, by simp, fun _ _ => trivial, fun t0 xs0 e => ?_, fun t0 xs0 e => (by cases e), fun p b arr _ _ hb => ⟨arr, hb, rfl⟩, ?_⟩)
    ·rcases e with e | ⟨_, _, _, e⟩
     ·cases e
     ·injection e with e1 e2
      subst e1
      have e2 := eq_of_heq e2
      subst e2
      exact ⟨xs, .inl rfl, rfl⟩
    ·rw [hg'old k hcne]
     refine ⟨All2.of_get (by rw [List.length_map, keysFrom_length]; exact hal.symm) fun j q k' hq hk' => ?_, bc, arr, hgc, hblk, hi, fun j hj hne => ?_, es0, hl0, hc0, hcells⟩
     ·have hjl : j < chs.length := by rw [hal]; exact (List.getElem?_eq_some_iff.1 hq).1
      rw [keysFrom_fst, List.getElem?_range' hjl] at hk'
      injection hk' with hk'
      have hk' : k' = st.nx + j := by omega
      subst hk'
      exact ⟨by rw [hm'new j _ (List.getElem?_eq_getElem hjl)]; simp, hg'new j q hq⟩
     ·obtain ⟨es, k1, k2⟩ := hels j hj
      exact ⟨es, k1, ElR.keep (fun b hb => ⟨hsafe b hb, rfl⟩) t (fun _ _ _ => rfl) k2⟩
   ·refine .inl ⟨by rw [hm'old k e (by rw [ho]; simp)]; exact ho, fun p b hn hgb hbG => ?_⟩
    obtain ⟨p', hp'⟩ := (hGi b).1 hbG
    exact e (h.injp k c p _ _ _ b ho hn hl trivial hgb hp').1
  ·obtain ⟨j, e, hj⟩ := hm'inv k ch hk' ho
   subst e
   obtain ⟨q, hq⟩ := hoff j ch hj
   refine ⟨(hchs j ch hj).2, fun p b _ hgb => ?_⟩
   rw [hg'new j q hq] at hgb
   refine ⟨.inr ((hGi b).2 ⟨_, hgb⟩), h.lt c _ _ b hl trivial hgb, fun k' p' ch' hk2 hn2 hg2 => ?_⟩
   cases ho2 : lk k' st.mem with
   | none =>
    obtain ⟨j2, e2, hj2⟩ := hm'inv k' ch' hk2 ho2
    subst e2
    obtain ⟨q2, hq2⟩ := hoff j2 ch' hj2
    rw [hg'new j2 q2 hq2] at hg2
    have := (h.injp c c _ _ _ _ b hl trivial hl trivial hg2 hgb).2
    injection this with _ this
    injection this with e1 e2
    subst e1
    have hj12 : j2 = j := by
     obtain ⟨l1, q1⟩ := List.getElem?_eq_some_iff.1 hq2
     obtain ⟨l2, q2'⟩ := List.getElem?_eq_some_iff.1 hq
     exact (List.getElem_inj (ownOffs_nodup t 0)).1 (q1.trans q2'.symm)
    exact ⟨by rw [hj12], e2⟩
   | some c0 =>
    exfalso
    rw [hg'old k' (by rw [ho2]; simp)] at hg2
    by_cases e : k' = c
    ·subst e
     rw [hm'c] at hk2
     injection hk2 with hk2
     subst hk2
     have := (h.injp k' k' _ _ _ _ b hl trivial hl trivial hg2 hgb).2
     exact hn2 q p this (List.mem_of_getElem? hq)
    ·rw [hm'old k' e (by rw [ho2]; simp), ho2] at hk2
     injection hk2 with hk2
     subst hk2
     exact e (h.injp k' c _ _ _ _ b ho2 hn2 hl trivial hg2 hgb).1
 exact ⟨g', h.turn T, T.stays⟩

end
end Go.Ide


/-
 An open element is closed: what its cells are is an element again.
-/
namespace Go.Ide

def inL (j : Nat) : List Nat → Bool
 | [] => false
 | a :: l => Nat.beq j a || inL j l

theorem inL_iff {j : Nat} : ∀ {l : List Nat}, inL j l = true ↔ j ∈ l
 | [] => by simp [inL]
 | a :: l => by simp [inL, inL_iff (l := l)]

def cellKeys : List ICell → List Nat
 | [] => []
 | .all k :: r => k :: cellKeys r
 | _ :: r => cellKeys r

theorem cellKeys_mem : ∀ {cs : List ICell} {q k : Nat}, cs[q]? = some (.all k) → k ∈ cellKeys cs
 | [], q, k, h => by simp at h
 | c :: cs, 0, k, h => by simp at h; subst h; simp [cellKeys]
 | c :: cs, q + 1, k, h => by
  have := cellKeys_mem (cs := cs) (q := q) (k := k) (by simpa using h)
  cases c <;> simp [cellKeys, this]

theorem cellKeys_inj : ∀ {cs : List ICell} {p q k : Nat}, (cellKeys cs).Nodup → cs[p]? = some (.all k) → cs[q]? = some (.all k) → p = q
 | [], p, q, k, _, h, _ => by simp at h
 | c :: cs, 0, 0, k, _, _, _ => rfl
 | c :: cs, 0, q + 1, k, hn, h1, h2 => by
  simp at h1
  subst h1
  simp only [cellKeys, List.nodup_cons] at hn
  exact absurd (cellKeys_mem (by simpa using h2)) hn.1
 | c :: cs, p + 1, 0, k, hn, h1, h2 => by
  simp at h2
  subst h2
  simp only [cellKeys, List.nodup_cons] at hn
  exact absurd (cellKeys_mem (by simpa using h1)) hn.1
 | c :: cs, p + 1, q + 1, k, hn, h1, h2 => by
  have hn' : (cellKeys cs).Nodup := by cases c <;> simp [cellKeys] at hn <;> first | exact hn | exact hn.2
  have h1 : cs[p]? = some (.all k) := by simpa using h1
  have h2 : cs[q]? = some (.all k) := by simpa using h2
  rw [cellKeys_inj hn' h1 h2]

theorem cellKeys_app : ∀ (a b : List ICell), cellKeys (a ++ b) = cellKeys a ++ cellKeys b
 | [], _ => rfl
 | c :: a, b => by cases c <;> simp [cellKeys, cellKeys_app a b]

section
variable {m : Mem}

theorem implO_split : ∀ (t : Ty) {cs r : List ICell} {x : t.D} {ls : List Nat}, implO m t cs = some ((x, ls), r) → ∃ c1, cs = c1 ++ r ∧ c1.length = t.size ∧ ls = cellKeys c1 ∧ ∀ k ∈ ls, ∃ t' xs', lk k m = some (.seq t' xs') := by
 have prim : ∀ (t : Ty) (ht : t.size = 1) (hf : ∀ c x, cdat [] t c = some x → cellKeys [c] = []) {cs r : List ICell} {x : t.D} {ls : List Nat}, (impl1 [] t cs).map (fun p => ((p.1, ([] : List Nat)), p.2)) = some ((x, ls), r) → ∃ c1, cs = c1 ++ r ∧ c1.length = t.size ∧ ls = cellKeys c1 ∧ ∀ k ∈ ls, ∃ t' xs', lk k m = some (.seq t' xs') := by
  intro t ht hf cs r x ls h
  cases cs with
  | nil => simp [impl1] at h
  | cons c cs =>
   simp only [impl1] at h
   cases hd : cdat [] t c with
   | none => rw [hd] at h; simp at h
   | some y =>
    rw [hd] at h
    simp at h
    obtain ⟨⟨rfl, rfl⟩, rfl⟩ := h
    exact ⟨[c], rfl, by simp [ht], (hf c y hd).symm, by simp⟩
 have noall : ∀ (t : Ty) c x, cdat [] t c = some x → cellKeys [c] = [] := by
  intro t c x h
  cases c <;> first | rfl | skip
  rename_i k
  cases t <;> simp [cdat, lk_nil] at h
 intro t
 induction t with
 | int k => intro cs r x ls h; exact prim _ rfl (noall _) h
 | flt k => intro cs r x ls h; exact prim _ rfl (noall _) h
 | bool => intro cs r x ls h; exact prim _ rfl (noall _) h
 | str => intro cs r x ls h; exact prim _ rfl (noall _) h
 | sl t _ => intro cs r x ls h; exact prim _ rfl (noall _) h
 | bx t _ => intro cs r x ls h; exact prim _ rfl (noall _) h
 | st t ih => intro cs r x ls h; exact ih h
 | pair a b iha ihb =>
  intro cs r x ls h
  simp only [implO] at h
  split at h
  ·rename_i y k1 r1 h1
   split at h
   ·rename_i z k2 r2 h2
    injection h with h
    injection h with h3 h4
    injection h3 with h5 h6
    subst h4; subst h6
    obtain ⟨c1, e1, l1, q1, s1⟩ := iha h1
    obtain ⟨c2, e2, l2, q2, s2⟩ := ihb h2
    refine ⟨c1 ++ c2, by rw [e1, e2, List.append_assoc], by simp [Ty.size, l1, l2], by rw [cellKeys_app, q1, q2], fun k hk => ?_⟩
    rcases List.mem_append.1 hk with hk | hk
    ·exact s1 k hk
    ·exact s2 k hk
   ·cases h
  ·cases h
 | own t _ =>
  intro cs r x ls h
  simp only [implO] at h
  split at h
  ·injection h with h
   injection h with h3 h4
   injection h3 with h5 h6
   subst h4; subst h6
   exact ⟨[.nilS], rfl, rfl, rfl, by simp⟩
  ·rename_i c r'
   split at h
   ·rename_i e xs hl
    split at h
    ·injection h with h
     injection h with h3 h4
     injection h3 with h5 h6
     subst h4; subst h6
     exact ⟨[.all c], rfl, rfl, rfl, fun k hk => by simp at hk; subst hk; exact ⟨_, _, hl⟩⟩
    ·cases h
   ·cases h
  ·cases h

variable {g : GM} {S S2 : Nat → Prop} {w : World}

theorem implO_rel (hm : ChAll g m S w) (hS : ∀ b, S b → S2 b) : ∀ (t : Ty) {γ : List Nat → Option Nat} {o : Nat} {cs r : List ICell} {x : t.D} {ls : List Nat} {vs : List Value}, implO m t cs = some ((x, ls), r) → All2 (CR g m S w) cs vs →
  (∀ q, o + q ∈ ownOffs t o → ∀ k, cs[q]? = some (.all k) → ∀ p, γ ((o + q) :: p) = g.f k p) → (∀ q, o + q ∈ ownOffs t o → cs[q]? = some .nilS → γ [o + q] = none) →
  ∃ v1 v2, vs = v1 ++ v2 ∧ ElR S2 w t γ o v1 x ∧ All2 (CR g m S w) r v2 := by
 have prim : ∀ (t : Ty) (hp : ∀ (γ : List Nat → Option Nat) (o : Nat) (cs : List Value) (x : t.D), Rep S2 w t cs x → ElR S2 w t γ o cs x) {γ : List Nat → Option Nat} {o : Nat} {cs r : List ICell} {x : t.D} {ls : List Nat} {vs : List Value},
   (impl1 [] t cs).map (fun p => ((p.1, ([] : List Nat)), p.2)) = some ((x, ls), r) → All2 (CR g m S w) cs vs → ∃ v1 v2, vs = v1 ++ v2 ∧ ElR S2 w t γ o v1 x ∧ All2 (CR g m S w) r v2 := by
  intro t hp γ o cs r x ls vs h hr
  cases cs with
  | nil => simp [impl1] at h
  | cons c cs =>
   cases vs with
   | nil => exact hr.elim
   | cons v vs =>
    simp only [impl1] at h
    cases hd : cdat [] t c with
    | none => rw [hd] at h; simp at h
    | some y =>
     rw [hd] at h
     simp at h
     obtain ⟨⟨rfl, rfl⟩, rfl⟩ := h
     exact ⟨[v], vs, rfl, hp γ o _ _ (cdat_rep hS ReadM.nil hd hr.1), hr.2⟩
 intro t
 induction t with
 | int k => intro γ o cs r x ls vs h hr _ _; exact prim (.int k) (fun _ _ _ _ h => h) h hr
 | flt k => intro γ o cs r x ls vs h hr _ _; exact prim (.flt k) (fun _ _ _ _ h => h) h hr
 | bool => intro γ o cs r x ls vs h hr _ _; exact prim (.bool) (fun _ _ _ _ h => h) h hr
 | str => intro γ o cs r x ls vs h hr _ _; exact prim (.str) (fun _ _ _ _ h => h) h hr
 | sl t _ => intro γ o cs r x ls vs h hr _ _; exact prim (.sl t) (fun _ _ _ _ h => h) h hr
 | bx t _ => intro γ o cs r x ls vs h hr _ _; exact prim (.bx t) (fun _ _ _ _ h => h) h hr
 | st t ih => intro γ o cs r x ls vs h hr h1 h2; exact ih h hr h1 h2
 | pair a b iha ihb =>
  intro γ o cs r x ls vs h hr hγ hγ0
  simp only [implO] at h
  split at h
  ·rename_i y k1 r1 h1
   split at h
   ·rename_i z k2 r2 h2
    injection h with h
    injection h with h3 h4
    injection h3 with h5 h6
    subst h4; subst h5
    obtain ⟨c1, e1, l1, _, _⟩ := implO_split a h1
    obtain ⟨v1, v2, rfl, p1, q1⟩ := iha (γ := γ) (o := o) h1 hr (fun q hq k hk p => hγ q (List.mem_append.2 (.inl hq)) k hk p) (fun q hq hk => hγ0 q (List.mem_append.2 (.inl hq)) hk)
    obtain ⟨v3, v4, rfl, p2, q2⟩ := ihb (γ := γ) (o := o + a.size) h2 q1 (fun q hq k hk p => by
     have := hγ (a.size + q) (List.mem_append.2 (.inr (by rw [← Nat.add_assoc]; exact hq))) k (by rw [e1, List.getElem?_append_right (by omega), l1, Nat.add_sub_cancel_left]; exact hk) p
     rw [Nat.add_assoc]; exact this) (fun q hq hk => by
     have := hγ0 (a.size + q) (List.mem_append.2 (.inr (by rw [← Nat.add_assoc]; exact hq))) (by rw [e1, List.getElem?_append_right (by omega), l1, Nat.add_sub_cancel_left]; exact hk)
     rw [Nat.add_assoc]; exact this)
    exact ⟨v1 ++ v3, v4, by simp, ⟨v1, v3, rfl, p1, p2⟩, q2⟩
   ·cases h
  ·cases h
 | own t _ =>
  intro γ o cs r x ls vs h hr hγ hγ0
  simp only [implO] at h
  have hmem : o + 0 ∈ ownOffs (.own t) o := by simp [ownOffs]
  split at h
  ·injection h with h
   injection h with h3 h4
   injection h3 with h5 h6
   subst h4; subst h5
   cases vs with
   | nil => exact hr.elim
   | cons v vs =>
    have h0 := hγ0 0 hmem rfl
    rw [Nat.add_zero] at h0
    obtain ⟨a, ha⟩ := hr.1
    subst ha
    refine ⟨[_], vs, rfl, ⟨_, rfl, ?_, ?_⟩, hr.2⟩
    ·rw [h0]; exact ⟨a, rfl⟩
    ·rw [h0]; rfl
  ·rename_i c r'
   split at h
   ·rename_i e xs hl
    split at h
    ·rename_i he
     subst he
     injection h with h
     injection h with h3 h4
     injection h3 with h5 h6
     subst h4; subst h5
     cases vs with
     | nil => exact hr.elim
     | cons v vs =>
      have h0 := hγ 0 hmem c rfl
      rw [Nat.add_zero] at h0
      have hv := hr.1.2.2 e xs (.inl hl)
      have hch := hm c _ hl
      unfold ChR at hch
      have h00 : γ [o] = g.f c [] := h0 []
      refine ⟨[v], vs, rfl, ⟨v, rfl, ?_, ?_⟩, hr.2⟩
      ·rw [h00]; exact hv
      ·rw [h00]
       cases hg : g.f c [] with
       | none => rw [hg] at hch; have hch : xs = [] := hch; show List.length xs = 0; rw [hch]; rfl
       | some b =>
        rw [hg] at hch
        obtain ⟨arr, hb, hels⟩ := hch
        refine ⟨arr, hb, fun i hi => ?_⟩
        obtain ⟨es, k1, k2⟩ := hels i hi
        refine ⟨es, k1, ?_⟩
        have : (fun p => γ (o :: i :: p)) = fun p => g.f c (i :: p) := funext fun p => h0 (i :: p)
        rw [this]
        exact ElR.keep (fun b hb => ⟨hS b hb, rfl⟩) e (fun _ _ _ => rfl) k2
    ·cases h
   ·cases h
  ·cases h

theorem lk_gones {k : Nat} {m : Mem} : ∀ {ls : List Nat}, lk k ((ls.map fun k => (k, Chunk.gone)) ++ m) = if k ∈ ls then some .gone else lk k m
 | [] => by simp
 | q :: ls => by
  simp only [List.map_cons, List.cons_append]
  rw [lk_cons, lk_gones (ls := ls)]
  by_cases e : k = q
  ·subst e; simp
  ·rw [if_neg e]; simp [e]

end
end Go.Ide


/-
 Loads and stores that open an element.
-/
namespace Go.Ide

def opnOf (m : Mem) (nx : Nat) : IVal → Option (Mem × Mem × Prop)
 | .one (.elp c i sz _) => match lk c m with
  | some (.seq t xs) => bif Nat.beq sz t.size then some (opnU c i nx t xs, opnN i nx t xs, i < xs.length) else none
  | _ => none
 | _ => none

def iOpenL (P : Program) (m : Mem) (nx : Nat) (T : TypeId) (v : IVal) : Option Eff :=
 match opnOf m nx v with
 | some (u, n, p) => (match iLoad P (u ++ n ++ m) T v with
  | some e => some ⟨e.val, n, u, [p]⟩
  | none => none)
 | none => none

def iStoreO (P : Program) (m : Mem) (nx : Nat) (T : TypeId) (v x : IVal) : Option Eff :=
 match opnOf m nx v with
 | some (u, n, p) => (match iStore P (u ++ n ++ m) T v x with
  | some e => some ⟨.junk, n, e.upd ++ u, [p]⟩
  | none => none)
 | none => none

theorem opnOf_spec {m : Mem} {nx : Nat} {v : IVal} {u n : Mem} {p : Prop} (h : opnOf m nx v = some (u, n, p)) :
  ∃ c i sz off t xs, v = .one (.elp c i sz off) ∧ lk c m = some (.seq t xs) ∧ u = opnU c i nx t xs ∧ n = opnN i nx t xs ∧ p = (i < xs.length) := by
 unfold opnOf at h
 split at h
 ·rename_i c i sz off
  split at h
  ·rename_i t xs hl
   cases hb : Nat.beq sz t.size with
   | false => rw [hb] at h; cases h
   | true =>
    rw [hb] at h
    simp only [cond_true] at h
    injection h with h
    injection h with h1 h
    injection h with h2 h3
    exact ⟨c, i, sz, off, t, xs, rfl, hl, h1.symm, h2.symm, h3.symm⟩
  ·cases h
 ·cases h

theorem lk_opnU {c i nx : Nat} {t : Ty} {xs : List t.D} {l : Mem} : ∃ cs ks, lk c (opnU c i nx t xs ++ l) = some (.opn t xs i cs ks) := by
 refine ⟨(explO t (xs.getD i t.dflt) nx).1, (keysFrom nx (explO t (xs.getD i t.dflt) nx).2).map Prod.fst, ?_⟩
 show lk c ((c, _) :: l) = _
 rw [lk_cons, if_pos rfl]

theorem iLoad_cond {P : Program} {m : Mem} {T : TypeId} {c i sz off : Nat} {t : Ty} {xs : List t.D} {cs : List ICell} {ks : List Nat} {e : Eff} (hl : lk c m = some (.opn t xs i cs ks)) (h : iLoad P m T (.one (.elp c i sz off)) = some e) : AllP e.cond := by
 unfold iLoad at h
 split at h
 ·rename_i c' i' sz' off' n ag ha hs hag
  injection ha with ha
  injection ha with e1 e2 e3 e4
  subst e1; subst e2; subst e3; subst e4
  rw [hl] at h
  simp only at h
  cases hb : (Nat.ble (off + n) t.size && Nat.beq sz t.size) with
  | false => rw [hb] at h; cases h
  | true =>
   rw [hb] at h
   simp only [cond_true] at h
   split at h
   ·obtain ⟨_, hc⟩ := pureC_eq h
    rw [hc]
    exact ⟨by simp, trivial⟩
   ·cases h
 ·rename_i e1 _ _; cases e1
 ·rename_i hno _ _ _ e1 _ _
  injection e1 with e1
  subst e1
  simp [cellsAt] at h
 ·cases h

theorem iStore_cond {P : Program} {m : Mem} {T : TypeId} {c i sz off : Nat} {t : Ty} {xs : List t.D} {cs : List ICell} {ks : List Nat} {x : IVal} {e : Eff} (hl : lk c m = some (.opn t xs i cs ks)) (h : iStore P m T (.one (.elp c i sz off)) x = some e) : AllP e.cond ∧ e.new = [] ∧ e.val = .junk := by
 unfold iStore at h
 split at h
 ·rename_i e1 _; cases e1
 ·rename_i c' i' sz' off' n ha hs
  injection ha with ha
  injection ha with e1 e2 e3 e4
  subst e1; subst e2; subst e3; subst e4
  rw [hl] at h
  simp only at h
  cases hb : ((Nat.beq x.cells.length n && Nat.ble (off + n) t.size) && (Nat.beq sz t.size && x.ok)) with
  | false => rw [hb] at h; cases h
  | true =>
   rw [hb] at h
   simp only [cond_true] at h
   injection h with h
   subst h
   exact ⟨⟨by simp, trivial⟩, rfl, rfl⟩
 ·rename_i e1 _; cases e1
 ·cases h

section
variable {cx : Cx} {g : GM} {st : St} {a : Act} {w : World}

theorem iOpenL_sound {T : TypeId} {v : IVal} {e : Eff} {va : Value} (h : Sim cx g st a w) (hw : Fresh st.mem e.new) (he : iOpenL cx.P st.mem st.nx T v = some e) (hc : AllP e.cond) (hr : VR g st.mem (cx.safe g st.mem w) w v va) : Runs cx st a w (Instr.loadAt T va) e := by
 unfold iOpenL at he
 split at he
 ·rename_i u n p hp
  split at he
  ·rename_i e1 hld
   injection he with he
   subst he
   obtain ⟨c, i, sz, off, t, xs, rfl, hl, rfl, rfl, rfl⟩ := opnOf_spec hp
   obtain ⟨g', hs, hst⟩ := h.openAt hl hc.1 hw
   obtain ⟨cs, ks, hlk⟩ := lk_opnU (c := c) (i := i) (nx := st.nx) (t := t) (xs := xs) (l := opnN i st.nx t xs ++ st.mem)
   rw [← List.append_assoc] at hlk
   obtain ⟨_, _, r, h3, h4⟩ := iLoad_sound hs.mem hld (iLoad_cond hlk hld) (VR.stays hst hr)
   exact ⟨r, w, h3, g', hs, h4⟩
  ·cases he
 ·cases he

theorem iStoreO_sound {T : TypeId} {x v : IVal} {e : Eff} {xa va : Value} (h : Sim cx g st a w) (hw : Fresh st.mem e.new) (he : iStoreO cx.P st.mem st.nx T x v = some e) (hc : AllP e.cond)
  (hx : VR g st.mem (cx.safe g st.mem w) w x xa) (hv : VR g st.mem (cx.safe g st.mem w) w v va) : RunsU cx st a w (Instr.storeAt T xa va) e := by
 unfold iStoreO at he
 split at he
 ·rename_i u n p hp
  split at he
  ·rename_i e1 hld
   injection he with he
   subst he
   obtain ⟨c, i, sz, off, t, xs, rfl, hl, rfl, rfl, rfl⟩ := opnOf_spec hp
   obtain ⟨g', hs, hst⟩ := h.openAt hl hc.1 hw
   obtain ⟨cs, ks, hlk⟩ := lk_opnU (c := c) (i := i) (nx := st.nx) (t := t) (xs := xs) (l := opnN i st.nx t xs ++ st.mem)
   rw [← List.append_assoc] at hlk
   obtain ⟨q1, q2, q3⟩ := iStore_cond hlk hld
   obtain ⟨w', hrun, g2, hs2, _⟩ := iStore_sound hs hld q1 (VR.stays hst hx) (VR.stays hst hv)
   refine ⟨w', hrun, g2, ?_, trivial⟩
   rw [q2] at hs2
   have hs2 : Sim cx g2 (st.setMem (e1.upd ++ [] ++ (opnU c i st.nx t xs ++ opnN i st.nx t xs ++ st.mem)) (st.nx + (opnN i st.nx t xs).length + 0)) a w' := hs2
   rw [List.append_nil] at hs2
   show Sim cx g2 (st.setMem ((e1.upd ++ opnU c i st.nx t xs) ++ opnN i st.nx t xs ++ st.mem) (st.nx + (opnN i st.nx t xs).length)) a w'
   rw [List.append_assoc, List.append_assoc]
   rw [List.append_assoc] at hs2
   exact hs2
  ·cases he
 ·cases he


def Hint.isOpn : Hint → Bool
 | .opn => true
 | _ => false

def iLoadH (P : Program) (m : Mem) (nx : Nat) (h : Hint) (T : TypeId) (v : IVal) : Option Eff := bif h.isOpn then iOpenL P m nx T v else iLoad P m T v
def iStoreH (P : Program) (m : Mem) (nx : Nat) (h : Hint) (T : TypeId) (v x : IVal) : Option Eff := bif h.isOpn then iStoreO P m nx T v x else iStore P m T v x

theorem iLoadH_sound {hh : Hint} {T : TypeId} {v : IVal} {e : Eff} {va : Value} (h : Sim cx g st a w) (hw : Fresh st.mem e.new) (he : iLoadH cx.P st.mem st.nx hh T v = some e) (hc : AllP e.cond) (hr : VR g st.mem (cx.safe g st.mem w) w v va) : Runs cx st a w (Instr.loadAt T va) e := by
 unfold iLoadH at he
 cases hb : hh.isOpn with
 | true => rw [hb] at he; exact iOpenL_sound h hw he hc hr
 | false => rw [hb] at he; exact (iLoad_sound h.mem he hc hr).runs h

theorem iStoreH_sound {hh : Hint} {T : TypeId} {x v : IVal} {e : Eff} {xa va : Value} (h : Sim cx g st a w) (hw : Fresh st.mem e.new) (he : iStoreH cx.P st.mem st.nx hh T x v = some e) (hc : AllP e.cond)
  (hx : VR g st.mem (cx.safe g st.mem w) w x xa) (hv : VR g st.mem (cx.safe g st.mem w) w v va) : RunsU cx st a w (Instr.storeAt T xa va) e := by
 unfold iStoreH at he
 cases hb : hh.isOpn with
 | true => rw [hb] at he; exact iStoreO_sound h hw he hc hx hv
 | false => rw [hb] at he; exact iStore_sound h he hc hx hv

end
end Go.Ide


/-
 The builtin copy.
-/
namespace Go.Ide

def cpDst (m : Mem) : IVal → Option (Nat × Nat × Nat)
 | .one (.all c) => (match lk c m with
  | some (.seq _ xs) => some (c, 0, xs.length)
  | _ => none)
 | .one (.ref c off len) => some (c, off, len)
 | _ => none

def iCopy (P : Program) (m : Mem) (T : TypeId) (x y : IVal) : Option Eff :=
 match P.underlying T, cpDst m x with
 | some (.slice e), some (c, off, len) => (match lk c m with
  | some (.seq t xs) => bif (sizeT P e == some t.size && t.top) && srcOK m y then
    (match vdat m (.sl t) y with
    | some ys => some ⟨.one (.dat (.int .i64) ((Nat.min (List.length ys) len : Nat) : Int)), [], [(c, .seq t (xs.take off ++ (List.take (Nat.min (List.length ys) len) ys : List t.D) ++ xs.drop (off + Nat.min (List.length ys) len)))], []⟩
    | none => none) else none
  | _ => none)
 | _, _ => none

section
variable {g : GM} {m : Mem} {S : Nat → Prop} {w : World}

theorem ElsL.drop {t : Ty} {xs : List t.D} {l : List Value} {n : Nat} (h : ElsL S w t xs l) : ElsL S w t (xs.drop n) (l.drop (n * t.size)) := fun i hi => by
 simp only [List.length_drop] at hi
 obtain ⟨es, h1, h2⟩ := h (n + i) (by omega)
 refine ⟨es, fun j hj => ?_, by rw [List.getElem_drop]; exact h2⟩
 rw [List.getElem?_drop, ← Nat.add_assoc, ← Nat.add_mul]
 exact h1 j hj

theorem cpDst_rel (hm : ChAll g m S w) {x : IVal} {xa : Value} {c off len : Nat} {t : Ty} {xs : List t.D} (h : cpDst m x = some (c, off, len)) (hl : lk c m = some (.seq t xs)) (hx : VR g m S w x xa) :
  off + len ≤ xs.length ∧ ∃ a cap, xa = .slice a len cap ∧ (len = 0 ∨ ∃ b arr, g.f c [] = some b ∧ a = some ⟨b, off * t.size, none⟩ ∧ blk w b arr ∧ (off + len) * t.size ≤ arr.size) := by
 unfold cpDst at h
 split at h
 ·rename_i c'
  split at h
  ·rename_i t' xs' hl'
   injection h with h
   injection h with h1 h
   injection h with h2 h3
   subst h1; subst h2
   rw [hl] at hl'
   injection hl' with hl'
   injection hl' with e1 e2
   subst e1
   have e2 := eq_of_heq e2
   subst e2
   subst h3
   have hv := hx.2.2 t xs (.inl hl)
   refine ⟨by omega, ?_⟩
   unfold AllR at hv
   cases hg : g c' with
   | none =>
    rw [hg] at hv
    obtain ⟨a, ha⟩ := hv
    have hch := hm c' _ hl
    unfold ChR at hch
    rw [show g.f c' [] = none from hg] at hch
    have hch : xs = [] := hch
    exact ⟨a, 0, by rw [ha, hch]; rfl, .inl (by rw [hch]; rfl)⟩
   | some b =>
    rw [hg] at hv
    obtain ⟨cap, arr, e, k1, k2, k3, _⟩ := hv
    refine ⟨_, cap, e, .inr ⟨b, arr, hg, by rw [Nat.zero_mul], k2, ?_⟩⟩
    rw [Nat.zero_add]
    exact Nat.le_trans (Nat.mul_le_mul_right _ k1) k3
  ·cases h
 ·rename_i c' off' len'
  injection h with h
  injection h with h1 h
  injection h with h2 h3
  subst h1; subst h2; subst h3
  obtain ⟨hle, hv⟩ := hx.2.2 t xs (.inl hl)
  refine ⟨hle, ?_⟩
  rcases hv with ⟨h0, _, a, ha⟩ | ⟨b, cap, arr, hg, e, k1, k2, k3, _⟩
  ·exact ⟨a, 0, by rw [ha, h0], .inl h0⟩
  ·exact ⟨_, cap, e, .inr ⟨b, arr, hg, rfl, k2, Nat.le_trans (Nat.mul_le_mul_right _ (by omega)) k3⟩⟩
 ·cases h

end

section
variable {cx : Cx} {g : GM} {st : St} {a : Act} {w : World}

theorem iCopy_sound {T T' ty : TypeId} {x y : IVal} {e : Eff} {xa ya : Value} (h : Sim cx g st a w) (he : iCopy cx.P st.mem T x y = some e)
  (hx : VR g st.mem (cx.safe g st.mem w) w x xa) (hy : VR g st.mem (cx.safe g st.mem w) w y ya) : Runs cx st a w (Builtin.copy_ #[T, T'] ty #[xa, ya]) e := by
 unfold iCopy at he
 split at he
 ·rename_i el c off len hu hd
  split at he
  ·rename_i t xs hl
   cases hb : ((sizeT cx.P el == some t.size && t.top) && srcOK st.mem y) with
   | false => rw [hb] at he; cases he
   | true =>
    rw [hb] at he
    simp only [cond_true] at he
    simp only [Bool.and_eq_true, beq_iff_eq] at hb
    obtain ⟨⟨hsz, htop⟩, hsok⟩ := hb
    split at he
    ·rename_i ys hys
     injection he with he
     subst he
     obtain ⟨hle, da, dcap, rfl, hdst⟩ := cpDst_rel h.mem hd hl hx
     obtain ⟨news, hsr⟩ := src_rel h.mem hys hsok htop hy
     obtain ⟨sa, scap, rfl, hsc⟩ := hsr.val
     have hn1 : Nat.min (List.length ys) len ≤ List.length ys := Nat.min_le_left _ _
     have hn2 : Nat.min (List.length ys) len ≤ len := Nat.min_le_right _ _
     generalize hmin : Nat.min (List.length ys) len = n at hn1 hn2 ⊢
     have hnl : (news.take (n * t.size)).length = n * t.size := by
      rw [List.length_take, hsr.len]
      exact Nat.min_eq_left (Nat.mul_le_mul_right _ hn1)
     have hfc := run_firstCells_of (P := cx.P) (w := w) (size := t.size) (n := n) (a := sa) (len := List.length ys) (cap := scap) hnl (by
      rcases hsc with h0 | ⟨ad, e, hc⟩
      ·exact .inl (by omega)
      ·exact .inr ⟨ad, e, fun j v hj => by
        rw [List.getElem?_take] at hj
        split at hj
        ·exact hc j v hj
        ·cases hj⟩)
     have hsize : (sizeOf el).run cx.P w = .ok t.size w := run_sizeT hsz
     rcases hdst with h0 | ⟨b, arr, hg, rfl, hblk, hfit⟩
     ·-- nothing is copied
      have hn0 : n = 0 := by omega
      have hrun : (Builtin.copy_ #[T, T'] ty #[.slice da len dcap, .slice sa (List.length ys) scap]).run cx.P w = .ok (.int .i64 ((n : Nat) : Int)) w := by
       have hst : ∀ ad : Addr, (storeCells ad (news.take (n * t.size)).toArray.toList).run cx.P w = .ok () w := fun ad => by
        rw [hn0]; simp [storeCells]
       cases da with
       | none => simp [Builtin.copy_, run_underlying hu, Builtin.lenOf, hmin, hsize, hfc, goInt]
       | some ad => simp [Builtin.copy_, run_underlying hu, Builtin.lenOf, hmin, hsize, hfc, hst ad, goInt]
      refine ⟨_, w, hrun, g, ?_, rfl⟩
      have hsame : (xs.take off ++ (List.take n ys : List t.D) ++ xs.drop (off + n)) = xs := by
       rw [hn0]; simp
      show Sim cx g (st.setMem ([(c, Chunk.seq t (xs.take off ++ (List.take n ys : List t.D) ++ xs.drop (off + n)))] ++ [] ++ st.mem) (st.nx + 0)) a w
      rw [hsame]
      have hlk : ∀ k, lk k ([(c, Chunk.seq t xs)] ++ [] ++ st.mem) = lk k st.mem := fun k => by
       show lk k ((c, _) :: st.mem) = _
       rw [lk_cons]
       by_cases e : k = c
       ·subst e; rw [if_pos rfl, hl]
       ·rw [if_neg e]
      exact h.turn (G := []) ⟨KeepF.refl _ _, fun b hb => (by simp at hb), fun _ _ => rfl, fun k ch hk => .inl ⟨(hlk k).trans hk, fun _ b _ _ hb => by simp at hb⟩, fun k ch hk hk' => by
       rw [hlk, hk] at hk'; cases hk'⟩
     ·have hfit2 : off * t.size + 0 + (news.take (n * t.size)).length ≤ arr.size := by
       rw [hnl, Nat.add_zero, ← Nat.add_mul]
       exact Nat.le_trans (Nat.mul_le_mul_right _ (by omega)) hfit
      have hones := ElsL.ones hsr.els hsr.len
      obtain ⟨w', arr', hst, k1, k2, k3, k4⟩ := run_storeCells_blk (P := cx.P) (news.take (n * t.size)) (off * t.size) 0 w arr hblk hfit2 (fun v hv => hones v (List.mem_of_mem_take hv))
      rw [Nat.add_zero, hnl] at k2
      have hrun : (Builtin.copy_ #[T, T'] ty #[.slice (some ⟨b, off * t.size, none⟩) len dcap, .slice sa (List.length ys) scap]).run cx.P w = .ok (.int .i64 ((n : Nat) : Int)) w' := by
       have hst' : (storeCells ⟨b, off * t.size, none⟩ (news.take (n * t.size)).toArray.toList).run cx.P w = .ok () w' := hst
       simp [Builtin.copy_, run_underlying hu, Builtin.lenOf, hmin, hsize, hfc, hst, goInt]
      have hlen' : (xs.take off ++ (List.take n ys : List t.D) ++ xs.drop (off + n)).length = xs.length := by
       simp only [List.length_append, List.length_take, List.length_drop]; omega
      have hasz : arr'.size = arr.size := by
       rw [← Array.length_toList, k2]
       simp only [List.length_append, hnl, List.length_take, List.length_drop, Array.length_toList]
       rw [hnl] at hfit2
       omega
      have q : Chg g st w w' c b [] (.seq t xs) (.seq t (xs.take off ++ (List.take n ys : List t.D) ++ xs.drop (off + n))) :=
       ⟨hl, trivial, hg, k3, ⟨arr, arr', hblk, k1, hasz⟩, fun _ _ => trivial, by simp, fun t' xs' e => by
        obtain ⟨e, e2⟩ := isSeq_seq e
        subst e
        subst e2
        exact ⟨xs, .inl rfl, hlen'.symm⟩, fun t' xs' e => by
        injection e with e1 e2; subst e1; have e2 := eq_of_heq e2; subst e2
        exact ⟨xs, rfl, ShapeEq.top htop hlen'.symm⟩⟩
      refine ⟨_, w', hrun, g, ?_, rfl⟩
      refine h.chg q ?_
      have hch := h.mem c _ hl
      unfold ChR at hch ⊢
      rw [hg] at hch ⊢
      obtain ⟨arr0, hb0, hels⟩ := hch
      have := hb0.eq hblk
      subst this
      have hsafe := (q.stays (cx := cx)).safe
      have hL : ElsL (cx.safe g st.mem w) w t xs arr0.toList := (hels.els htop).toL
      refine ⟨arr', k1, .of_els htop (ElsL.toR ?_)⟩
      rw [k2]
      have keep : ∀ {zs : List t.D} {l : List Value}, ElsL (cx.safe g st.mem w) w t zs l → ElsL (cx.safe g ((c, Chunk.seq t (xs.take off ++ (List.take n ys : List t.D) ++ xs.drop (off + n))) :: st.mem) w') w' t zs l := fun hz i hi => by
       obtain ⟨es, e1, e2⟩ := hz i hi
       exact ⟨es, e1, Rep.keep hsafe t es _ e2⟩
      have hx1 : (arr0.toList.take (off * t.size)).length = (xs.take off).length * t.size := by
       rw [List.length_take, List.length_take, Array.length_toList, Nat.min_eq_left (show off ≤ xs.length by omega), Nat.min_eq_left]
       exact Nat.le_trans (Nat.mul_le_mul_right _ (by omega)) hfit
      have hA := ElsL.app (rest := []) (keep (hL.take (n := off) (by omega))) hx1 (keep (hsr.els.take (n := n) hn1)) (by rw [hnl, List.length_take, Nat.min_eq_left hn1])
      rw [List.append_nil] at hA
      have hAl : (arr0.toList.take (off * t.size) ++ news.take (n * t.size)).length = (xs.take off ++ (List.take n ys : List t.D)).length * t.size := by
       rw [List.length_append, List.length_append, hx1, hnl, Nat.add_mul, List.length_take (l := ys), Nat.min_eq_left hn1]
      have hdr : ElsL (cx.safe g st.mem w) w t (xs.drop (off + n)) (arr0.toList.drop (off * t.size + n * t.size)) := by
       rw [← Nat.add_mul]; exact hL.drop
      intro i hi
      -- the last part: its cells may be more than its elements
      by_cases hlt : i < (xs.take off ++ (List.take n ys : List t.D)).length
      ·obtain ⟨es, e1, e2⟩ := hA i hlt
       refine ⟨es, fun j hj => ?_, by rw [List.getElem_append_left hlt]; exact e2⟩
       have hm : (i + 1) * t.size ≤ (xs.take off ++ (List.take n ys : List t.D)).length * t.size := Nat.mul_le_mul_right _ (by omega)
       rw [Nat.add_mul] at hm
       rw [List.getElem?_append_left (by rw [hAl]; omega)]
       exact e1 j hj
      ·have hi2 : i - (xs.take off ++ (List.take n ys : List t.D)).length < (xs.drop (off + n)).length := by
        rw [List.length_append] at hi; omega
       obtain ⟨es, e1, e2⟩ := keep hdr _ hi2
       refine ⟨es, fun j hj => ?_, by rw [List.getElem_append_right (by omega)]; exact e2⟩
       obtain ⟨d, hd⟩ : ∃ d, i = (xs.take off ++ (List.take n ys : List t.D)).length + d := ⟨_, (Nat.add_sub_cancel' (by omega)).symm⟩
       rw [hd, Nat.add_sub_cancel_left] at e1
       rw [hd, Nat.add_mul, List.getElem?_append_right (by rw [hAl]; omega), hAl]
       rw [show ∀ A B : Nat, A + B + j - A = B + j from fun A B => by omega]
       exact e1 j hj
    ·cases he
  ·cases he
 ·cases he

end
end Go.Ide


/-
 Elements that own slices: appended, and told by a literal.
-/
namespace Go.Ide

def iAppO (P : Program) (m : Mem) (nx : Nat) (T T' : TypeId) (t : Ty) (s x : IVal) : Option Eff :=
 match P.underlying T, s, x with
 | some (.slice e), .one s, .one (.all c2) => (match P.info? e, lk c2 m with
  | some i, some (.seq t2 ys) => bif ((Nat.beq T T' && Nat.beq i.size t.size) && (Nat.ble i.bytes 32768 && i.zero.isSome)) && (i.zero.map fun z => Nat.beq z.cells.size t.size).getD false then
    (if h : t2 = t then (match s with
     | .nilS => some ⟨.one (.all nx), [(nx, .seq t ([] ++ castD (a := .sl t2) (b := .sl t) (congrArg Ty.sl h) ys))], [(c2, .gone)], [0 + List.length ys ≤ appMax]⟩
     | .all c => (match lk c m with
      | some (.seq t1 xs) => if h1 : t1 = t then (bif !(Nat.beq c c2) then
        some ⟨.one (.all nx), [(nx, .seq t ((show List t.D from castD (a := .sl t1) (b := .sl t) (congrArg Ty.sl h1) xs) ++ castD (a := .sl t2) (b := .sl t) (congrArg Ty.sl h) ys))], [(c, .gone), (c2, .gone)], [List.length xs + List.length ys ≤ appMax]⟩ else none) else none
      | _ => none)
     | _ => none) else none) else none
  | _, _ => none)
 | _, _, _ => none

def iAppendX (P : Program) (m : Mem) (nx : Nat) (T T' : TypeId) (t : Ty) (s x : IVal) : Option Eff :=
 bif t.top then iAppend P m nx T T' t s x else iAppO P m nx T T' t s x

def iBuildO (P : Program) (m : Mem) (nx : Nat) (T : TypeId) (t : Ty) (len : Nat) (parts : List (Nat × IVal)) : Option Eff :=
 match P.underlying T, parts with
 | some (.slice e), [(0, v)] => bif (sizeT P e == some t.size && (((P.info? e).bind (·.zero)).map fun z => Nat.beq z.cells.size t.size) == some true) && (Nat.beq len 1 && Nat.ble t.size 65536) && v.ok then
   (match implO m t v.cells with
   | some ((x, ks), []) => bif nodupB ks then some ⟨.one (.all nx), [(nx, .seq t [x])], ks.map fun k => (k, .gone), []⟩ else none
   | _ => none) else none
 | _, _ => none

def iBuildX (P : Program) (m : Mem) (nx : Nat) (T : TypeId) (t : Ty) (len : Nat) (parts : List (Nat × IVal)) : Option Eff :=
 bif t.top then iBuildSlice P nx T t len parts else iBuildO P m nx T t len parts

section
variable {S S' : Nat → Prop} {w w' : World}

theorem ElR.ones : ∀ (t : Ty) {γ : List Nat → Option Nat} {o : Nat} {cs : List Value} {x : t.D}, ElR S w t γ o cs x → ∀ v ∈ cs, v.oneCell' = true
 | .own t, γ, o, cs, xs, ⟨v, e, ha, _⟩ => by
  subst e
  intro u hu
  simp only [List.mem_singleton] at hu
  subst hu
  unfold AllR at ha
  split at ha
  ·obtain ⟨a, rfl⟩ := ha; rfl
  ·obtain ⟨cap, arr, rfl, _⟩ := ha; rfl
 | .pair a b, γ, o, cs, x, ⟨c1, c2, e, h1, h2⟩ => by
  subst e
  intro u hu
  rcases List.mem_append.1 hu with hu | hu
  ·exact ElR.ones a h1 u hu
  ·exact ElR.ones b h2 u hu
 | .st t, γ, o, cs, x, hr => ElR.ones t (o := o) (cs := cs) (x := x) hr
 | .int k, _, _, cs, x, hr => Rep.ones (.int k) hr
 | .flt k, _, _, cs, x, hr => Rep.ones (.flt k) hr
 | .bool, _, _, cs, x, hr => Rep.ones .bool hr
 | .str, _, _, cs, x, hr => Rep.ones .str hr
 | .sl t, _, _, cs, x, hr => Rep.ones (.sl t) hr
 | .bx t, _, _, cs, x, hr => Rep.ones (.bx t) hr

theorem ElsO.ones {γ : List Nat → Option Nat} {t : Ty} {xs : List t.D} {arr : Array Value} (h : ElsO S w γ t xs arr) {k : Nat} {u : Value} (hk : k < xs.length * t.size) (hu : arr[k]? = some u) : u.oneCell' = true := by
 have hsz := t.size_pos
 have hi : k / t.size < xs.length := Nat.div_lt_of_lt_mul (by rw [Nat.mul_comm]; omega)
 obtain ⟨es, h1, h2⟩ := h (k / t.size) hi
 have hj : k % t.size < es.length := by rw [ElR.len t h2]; exact Nat.mod_lt _ hsz
 have h3 := h1 (k % t.size) _ (List.getElem?_eq_getElem hj)
 have hk2 : k / t.size * t.size + k % t.size = k := by rw [Nat.mul_comm]; exact Nat.div_add_mod k t.size
 rw [hk2, hu] at h3
 injection h3 with h3
 rw [h3]
 exact ElR.ones t h2 _ (List.getElem_mem hj)

theorem ElsO.nil {γ : List Nat → Option Nat} {t : Ty} {arr : Array Value} : ElsO S w γ t ([] : List t.D) arr := fun i hi => by simp at hi

theorem ElsO.glue {γ γ1 γ2 : List Nat → Option Nat} {t : Ty} {xs ys : List t.D} {arr1 arr2 arr' : Array Value} (h1 : ElsO S w γ1 t xs arr1) (h2 : ElsO S w γ2 t ys arr2) (k : ∀ b, S b → S' b ∧ w'.heap[b]? = w.heap[b]?)
  (e1 : ∀ i p, i < xs.length → γ (i :: p) = γ1 (i :: p)) (e2 : ∀ i p, γ ((xs.length + i) :: p) = γ2 (i :: p))
  (q1 : ∀ i p b, γ1 (i :: p) = some b → w'.heap[b]? = w.heap[b]?) (q2 : ∀ i p b, γ2 (i :: p) = some b → w'.heap[b]? = w.heap[b]?)
  (a1 : ∀ j v, j < xs.length * t.size → arr1[j]? = some v → arr'[j]? = some v) (a2 : ∀ j v, j < ys.length * t.size → arr2[j]? = some v → arr'[xs.length * t.size + j]? = some v) : ElsO S' w' γ t (xs ++ ys) arr' := by
 intro i hi
 by_cases hx : i < xs.length
 ·obtain ⟨es, k1, k2⟩ := h1 i hx
  refine ⟨es, fun j v hv => a1 _ v ?_ (k1 j v hv), ?_⟩
  ·have hj : j < t.size := by rw [← ElR.len t k2]; exact (List.getElem?_eq_some_iff.1 hv).1
   have : (i + 1) * t.size ≤ xs.length * t.size := Nat.mul_le_mul_right _ hx
   rw [Nat.succ_mul] at this
   omega
  ·rw [List.getElem_append_left hx, show (fun p => γ (i :: p)) = fun p => γ1 (i :: p) from funext fun p => e1 i p hx]
   exact ElR.keep k t (fun p b hp => q1 i p b hp) k2
 ·obtain ⟨j0, rfl⟩ : ∃ j0, i = xs.length + j0 := ⟨i - xs.length, by omega⟩
  have hy : j0 < ys.length := by rw [List.length_append] at hi; omega
  obtain ⟨es, k1, k2⟩ := h2 j0 hy
  refine ⟨es, fun j v hv => ?_, ?_⟩
  ·have hj : j < t.size := by rw [← ElR.len t k2]; exact (List.getElem?_eq_some_iff.1 hv).1
   have : (j0 + 1) * t.size ≤ ys.length * t.size := Nat.mul_le_mul_right _ hy
   rw [Nat.succ_mul] at this
   have := a2 _ v (by omega) (k1 j v hv)
   rw [Nat.add_mul, Nat.add_assoc]
   exact this
  ·rw [List.getElem_append_right (by omega), show (fun p => γ ((xs.length + j0) :: p)) = fun p => γ2 (j0 :: p) from funext fun p => e2 j0 p]
   simp only [Nat.add_sub_cancel_left]
   exact ElR.keep k t (fun p b hp => q2 j0 p b hp) k2

end

section
variable {cx : Cx} {g : GM} {st : St} {a : Act} {w w' : World}

def gluF (o : Option Nat) (n : Nat) (γ1 γ2 : List Nat → Option Nat) : List Nat → Option Nat
 | [] => o
 | i :: p => if i < n then γ1 (i :: p) else γ2 ((i - n) :: p)

def Froms (g : GM) (m up : Mem) (γ : List Nat → Option Nat) : Prop := ∀ p b, γ p = some b → ∃ c q ch0, lk c up = some .gone ∧ lk c m = some ch0 ∧ ch0.owns q ∧ g.f c q = some b

def GluB (w' : World) (t : Ty) (xs ys : List t.D) (arr1 arr2 : Array Value) : Option Nat → Prop
 | none => xs ++ ys = []
 | some b => ∃ arr', blk w' b arr' ∧ (∀ j v, j < xs.length * t.size → arr1[j]? = some v → arr'[j]? = some v) ∧ (∀ j v, j < ys.length * t.size → arr2[j]? = some v → arr'[xs.length * t.size + j]? = some v)

theorem Did.glue {e : Eff} {up : Mem} {t : Ty} {xs ys : List t.D} {γ1 γ2 : List Nat → Option Nat} {o : Option Nat} {val : Value} {F0 : List Nat} {arr1 arr2 : Array Value} (h : Sim cx g st a w) (hw : Fresh st.mem e.new)
  (he : e.new = [(st.nx, .seq t (xs ++ ys))] ∧ e.upd = up ∧ e.val = .one (.all st.nx)) (hup : Gone st.mem up)
  (h1 : Froms g st.mem up γ1) (h2 : Froms g st.mem up γ2) (i1 : ∀ p q b, γ1 p = some b → γ1 q = some b → p = q) (i2 : ∀ p q b, γ2 p = some b → γ2 q = some b → p = q) (dj : ∀ p q b, γ1 p = some b → γ2 q = some b → False)
  (ho : ∀ b, o = some b → γ1 [] = some b ∨ (w.heap.size ≤ b ∧ b < w'.heap.size)) (hk : KeepF F0 w w') (hF : ∀ b ∈ F0, γ1 [] = some b ∧ o = some b)
  (e1 : ElsO (cx.safe g st.mem w) w γ1 t xs arr1) (e2 : ElsO (cx.safe g st.mem w) w γ2 t ys arr2)
  (hb : GluB w' t xs ys arr1 arr2 o)
  (hv : AllR o w' t.size (xs ++ ys).length val) : Did cx st a e val w' := by
 classical
 have hfr : lk st.nx st.mem = none := hw (st.nx, .seq t (xs ++ ys)) (by rw [he.1]; simp)
 have lt1 : ∀ p b, γ1 p = some b → b < w.heap.size := fun p b hp => by
  obtain ⟨c, q, ch0, _, q2, q3, q4⟩ := h1 p b hp
  exact h.lt c q ch0 b q2 q3 q4
 have lt2 : ∀ p b, γ2 p = some b → b < w.heap.size := fun p b hp => by
  obtain ⟨c, q, ch0, _, q2, q3, q4⟩ := h2 p b hp
  exact h.lt c q ch0 b q2 q3 q4
 let γ := gluF o xs.length γ1 γ2
 have hcons : ∀ i p b, γ (i :: p) = some b → (i < xs.length ∧ γ1 (i :: p) = some b) ∨ (xs.length ≤ i ∧ γ2 ((i - xs.length) :: p) = some b) := fun i p b hp => by
  have hp : (if i < xs.length then γ1 (i :: p) else γ2 ((i - xs.length) :: p)) = some b := hp
  split at hp
  ·exact .inl ⟨by assumption, hp⟩
  ·exact .inr ⟨by omega, hp⟩
 let G := (List.range w.heap.size).filter fun b => decide (∃ p, γ p = some b)
 have hGm : ∀ b, b ∈ G ↔ b < w.heap.size ∧ ∃ p, γ p = some b := fun b => by simp [G]
 have hFG : ∀ b, b ∈ F0 → b ∈ G := fun b hb => (hGm b).2 ⟨lt1 _ b (hF b hb).1, [], (hF b hb).2⟩
 have hkG : KeepF G w w' := ⟨hk.os, hk.tape, hk.output, hk.size, fun b hb hn => hk.block b hb fun hf => hn (hFG b hf), hk.sz⟩
 have hsm : ∀ b, b < w.heap.size → b ∉ F0 → w'.heap[b]? = w.heap[b]? := hk.block
 obtain ⟨g', hgn, hs⟩ := h.newAt (ch := .seq t (xs ++ ys)) (γ := γ) hfr hup hkG (fun b hb => by
   obtain ⟨hlt, p, hp⟩ := (hGm b).1 hb
   cases p with
   | nil =>
    rcases ho b hp with hx | hx
    ·exact h1 _ b hx
    ·omega
   | cons i p =>
    rcases hcons i p b hp with ⟨_, hx⟩ | ⟨_, hx⟩
    ·exact h1 _ b hx
    ·exact h2 _ b hx)
  (fun p b hp => by
   have hlt : b < w'.heap.size := by
    cases p with
    | nil =>
     rcases ho b hp with hx | hx
     ·exact Nat.lt_of_lt_of_le (lt1 _ b hx) hk.size
     ·exact hx.2
    | cons i p =>
     rcases hcons i p b hp with ⟨_, hx⟩ | ⟨_, hx⟩
     ·exact Nat.lt_of_lt_of_le (lt1 _ b hx) hk.size
     ·exact Nat.lt_of_lt_of_le (lt2 _ b hx) hk.size
   refine ⟨hlt, ?_⟩
   by_cases hb : b < w.heap.size
   ·exact .inr ((hGm b).2 ⟨hb, p, hp⟩)
   ·exact .inl (by omega))
  (fun p q b hp hq => by
   have key : ∀ i r, γ (i :: r) = some b → o = some b → False := fun i r hr hob => by
    rcases hcons i r b hr with ⟨_, hx⟩ | ⟨_, hx⟩
    ·rcases ho b hob with hy | hy
     ·cases i1 _ _ b hx hy
     ·have := lt1 _ b hx; omega
    ·rcases ho b hob with hy | hy
     ·exact dj _ _ b hy hx
     ·have := lt2 _ b hx; omega
   cases p with
   | nil =>
    cases q with
    | nil => rfl
    | cons j q => exact (key j q hq hp).elim
   | cons i p =>
    cases q with
    | nil => exact (key i p hp hq).elim
    | cons j q =>
     rcases hcons i p b hp with ⟨l1, hx⟩ | ⟨l1, hx⟩
     ·rcases hcons j q b hq with ⟨l2, hy⟩ | ⟨l2, hy⟩
      ·exact i1 _ _ b hx hy
      ·exact (dj _ _ b hx hy).elim
     ·rcases hcons j q b hq with ⟨l2, hy⟩ | ⟨l2, hy⟩
      ·exact (dj _ _ b hy hx).elim
      ·have := i2 _ _ b hx hy
       injection this with a1 a2
       rw [a2, show i = j from by omega])
  (fun g' m' S' hS => by
   show ChR g' m' S' w' γ (.seq t (xs ++ ys))
   unfold ChR
   have hγ0 : γ [] = o := rfl
   rw [hγ0]
   cases ho2 : o with
   | none => rw [ho2] at hb; show xs ++ ys = []; exact hb
   | some b =>
    rw [ho2] at hb
    obtain ⟨arr', hb1, hb2, hb3⟩ := hb
    refine ⟨arr', hb1, ElsO.glue e1 e2 hS (fun i p hi => if_pos hi) (fun i p => ?_) (fun i p b' hp => hsm b' (lt1 _ b' hp) fun hf => ?_) (fun i p b' hp => hsm b' (lt2 _ b' hp) fun hf => ?_) hb2 hb3⟩
    ·show (if xs.length + i < xs.length then γ1 ((xs.length + i) :: p) else γ2 ((xs.length + i - xs.length) :: p)) = _
     rw [if_neg (by omega), Nat.add_sub_cancel_left]
    ·cases i1 _ _ b' hp (hF b' hf).1
    ·exact dj _ _ b' (hF b' hf).1 hp)
 refine ⟨g', ?_, ?_⟩
 ·rw [he.1, he.2.1]; exact hs
 ·rw [he.1, he.2.1, he.2.2]
  have hl : lk st.nx (up ++ [(st.nx, .seq t (xs ++ ys))] ++ st.mem) = some (.seq t (xs ++ ys)) := by
   rw [List.append_assoc, lk_append]
   cases hu : lk st.nx up with
   | none => simp [lk_cons]
   | some c0 => exact absurd hfr (hup.lk hu).2
  refine ⟨by rw [hl]; simp, ?_, fun t' xs' hl' => ?_⟩
  ·unfold AllR at hv
   cases o with
   | none => obtain ⟨a, rfl⟩ := hv; rfl
   | some b => obtain ⟨cap, arr, rfl, _⟩ := hv; rfl
  ·have hl' := SeqAt.toSeq hl hl'
   rw [hl] at hl'
   injection hl' with hl'
   injection hl' with ht hxs
   subst ht
   have hxs := eq_of_heq hxs
   subst hxs
   rw [show g' st.nx = o from by show g'.f st.nx [] = o; rw [hgn]; rfl]
   exact hv

theorem all_rel (h : Sim cx g st a w) {c : Nat} {t : Ty} {xs : List t.D} {v : Value} (hl : lk c st.mem = some (.seq t xs)) (hr : CR g st.mem (cx.safe g st.mem w) w (.all c) v) :
  (xs = [] ∧ g.f c [] = none ∧ ∃ ab, v = .slice ab 0 0) ∨ ∃ b cap arr, g.f c [] = some b ∧ v = .slice (some ⟨b, 0, none⟩) xs.length cap ∧ xs.length ≤ cap ∧ blk w b arr ∧ cap * t.size ≤ arr.size ∧ cap ≤ maxLen ∧ ElsO (cx.safe g st.mem w) w (g.f c) t xs arr := by
 have hch := h.mem c _ hl
 unfold ChR at hch
 have hv := hr.2.2 t xs (.inl hl)
 cases hg : g.f c [] with
 | none =>
  rw [hg] at hch
  have hv : AllR (g.f c []) w t.size xs.length v := hv
  rw [hg] at hv
  exact .inl ⟨hch, rfl, hv⟩
 | some b =>
  rw [hg] at hch
  have hv : AllR (g.f c []) w t.size xs.length v := hv
  rw [hg] at hv
  obtain ⟨arr, hb, hels⟩ := hch
  obtain ⟨cap, arr', e, q1, q2, q3, q4⟩ := hv
  have := blk.eq hb q2
  subst this
  exact .inr ⟨b, cap, arr, rfl, e, q1, hb, q3, q4, hels⟩

theorem srcO_rel (h : Sim cx g st a w) {c : Nat} {t : Ty} {xs : List t.D} {v : Value} (hl : lk c st.mem = some (.seq t xs)) (hr : CR g st.mem (cx.safe g st.mem w) w (.all c) v) :
  ∃ (ax : Option Addr) (capx : Nat) (news : List Value) (arr : Array Value), v = .slice ax xs.length capx ∧ news.length = xs.length * t.size ∧ (xs.length = 0 ∨ ∃ ad, ax = some ad ∧ ∀ j u, news[j]? = some u → w.cell? (ad.add j) = some u) ∧
   ElsO (cx.safe g st.mem w) w (g.f c) t xs arr ∧ (∀ j u, j < xs.length * t.size → arr[j]? = some u → news[j]? = some u) ∧ ∀ u ∈ news, u.oneCell' = true := by
 rcases all_rel h hl hr with ⟨rfl, _, ab, rfl⟩ | ⟨b, cap, arr, hg, rfl, hn, hb, hfit, _, hels⟩
 ·exact ⟨ab, 0, [], #[], rfl, by simp, .inl rfl, ElsO.nil, fun j u hj => by simp at hj, fun u hu => by simp at hu⟩
 ·have hle : xs.length * t.size ≤ arr.size := Nat.le_trans (Nat.mul_le_mul_right _ hn) hfit
  refine ⟨_, cap, arr.toList.take (xs.length * t.size), arr, rfl, by simp; omega, .inr ⟨_, rfl, fun j u hu => ?_⟩, hels, fun j u hj hu => ?_, fun u hu => ?_⟩
  ·rw [add_none, Nat.zero_add, hb.cell]
   rw [List.getElem?_take] at hu
   split at hu
   ·simpa using hu
   ·cases hu
  ·rw [List.getElem?_take, if_pos hj]; simpa using hu
  ·obtain ⟨k, hk, e⟩ := List.getElem_of_mem hu
   have hk2 : k < xs.length * t.size := by simp at hk; omega
   refine hels.ones hk2 ?_
   rw [← e, List.getElem_take, Array.getElem_toList, Array.getElem?_eq_getElem]

theorem froms_seq (h : Sim cx g st a w) {c : Nat} {t : Ty} {xs : List t.D} {up : Mem} (hl : lk c st.mem = some (.seq t xs)) (hu : lk c up = some .gone) : Froms g st.mem up (g.f c) :=
 fun p _ hp => ⟨c, p, _, hu, hl, trivial, hp⟩

theorem iAppO_sound {T T' : TypeId} {ty : TypeId} {t : Ty} {s x : IVal} {e : Eff} {sv xv : Value} (h : Sim cx g st a w) (hw : Fresh st.mem e.new) (he : iAppO cx.P st.mem st.nx T T' t s x = some e) (hc : AllP e.cond)
  (hs : VR g st.mem (cx.safe g st.mem w) w s sv) (hx : VR g st.mem (cx.safe g st.mem w) w x xv) : Runs cx st a w (Builtin.append_ #[T, T'] ty #[sv, xv]) e := by
 unfold iAppO at he
 split at he
 ·rename_i el s c2 hu
  split at he
  ·rename_i i t2 ys hi hl2
   cases hb : (((Nat.beq T T' && Nat.beq i.size t.size) && (Nat.ble i.bytes 32768 && i.zero.isSome)) && (i.zero.map fun z => Nat.beq z.cells.size t.size).getD false) with
   | false => rw [hb] at he; cases he
   | true =>
    rw [hb] at he
    simp only [cond_true] at he
    simp only [Bool.and_eq_true] at hb
    obtain ⟨⟨⟨hT, hsz⟩, hby, hzs⟩, hzc⟩ := hb
    have hT := beq_of hT
    subst hT
    have hsz := beq_of hsz
    have hby := ble_of hby
    obtain ⟨z, hz⟩ := Option.isSome_iff_exists.1 hzs
    rw [hz] at hzc
    have hzc : z.cells.size = t.size := beq_of (by simpa using hzc)
    split at he
    ·rename_i ht
     subst ht
     obtain ⟨ax, capx, news, arr2, rfl, hnl, hxc, hels2, hn2, hone⟩ := srcO_rel h hl2 hx
     have hnl' : news.length = ys.length * i.size := by rw [hsz]; exact hnl
     -- the block has grown
     have grow : ∀ (base : Option Addr) (cap : Nat) (xs : List t2.D) (γ1 : List Nat → Option Nat) (arr1 : Array Value) (olds : List Value) (up : Mem) (cond : List Prop), xs.length + ys.length ≤ 4294967296 → olds.length = xs.length * i.size → (xs.length = 0 ∨ ∃ ad, base = some ad ∧ ∀ j v, olds[j]? = some v → w.cell? (ad.add j) = some v) →
       (∀ j v, j < xs.length * t2.size → arr1[j]? = some v → olds[j]? = some v) → ElsO (cx.safe g st.mem w) w γ1 t2 xs arr1 → Gone st.mem up → Froms g st.mem up γ1 → Froms g st.mem up (g.f c2) →
       (∀ p q b, γ1 p = some b → γ1 q = some b → p = q) → (∀ p q b, γ1 p = some b → g.f c2 q = some b → False) → cap < xs.length + ys.length → Fresh st.mem [(st.nx, Chunk.seq t2 (xs ++ ys))] →
       Runs cx st a w (Builtin.append_ #[T, T] ty #[.slice base xs.length cap, .slice ax ys.length capx]) ⟨.one (.all st.nx), [(st.nx, .seq t2 (xs ++ ys))], up, cond⟩ := by
      intro base cap xs γ1 arr1 olds up cond hlen hol ho hcp hels1 hup hf1 hf2 hi1 hdj hlt hw
      have hbytes : (xs.length + ys.length) * i.bytes ≤ 140737488355328 := by
       calc (xs.length + ys.length) * i.bytes ≤ 4294967296 * 32768 := Nat.mul_le_mul hlen hby
        _ = 140737488355328 := by decide
      have hge := grownCap_ge w (xs.length + ys.length) cap el
      have hmx := grownCap_le_maxLen w (xs.length + ys.length) cap el (by unfold maxLen; omega)
      have hr := run_app_grow (P := cx.P) (ty := ty) (c := capx) hu hi hz hol ho hnl' hxc hlt hbytes (by omega)
      have hkeep : KeepF [] w (w.drew.alloc (.cells (olds.toArray ++ news.toArray ++ Builtin.zeroCells z.cells (grownCap w (xs.length + ys.length) cap el - (xs.length + ys.length))) el)) :=
       (KeepF.drew [] w).trans (KeepF.alloc _ _ _)
      have hblk := blk.new w.drew (olds.toArray ++ news.toArray ++ Builtin.zeroCells z.cells (grownCap w (xs.length + ys.length) cap el - (xs.length + ys.length))) el
      rw [hsz] at hol
      refine ⟨_, _, hr, ?_⟩
      refine Did.glue (o := some w.heap.size) (F0 := []) h hw ⟨rfl, rfl, rfl⟩ hup hf1 hf2 hi1 (fun p q b hp hq => (h.injp c2 c2 p q _ _ b hl2 trivial hl2 trivial hp hq).2) hdj (fun b hb => ?_) hkeep (fun b hb => by simp at hb) hels1 hels2 ⟨_, hblk, fun j v hj hv => ?_, fun j v hj hv => ?_⟩ ?_
      ·injection hb with hb
       subst hb
       exact .inr ⟨Nat.le_refl _, hblk.lt⟩
      ·have := hcp j v hj hv
       rw [Array.append_assoc, Array.getElem?_append_left (by simp; omega)]
       simpa using this
      ·have := hn2 j v hj hv
       rw [Array.append_assoc, Array.getElem?_append_right (by simp; omega), Array.getElem?_append_left (by simp; omega)]
       simpa [hol] using this
      ·refine ⟨grownCap w (xs.length + ys.length) cap el, _, ?_, by rw [List.length_append]; exact hge, hblk, ?_, hmx⟩
       ·rw [List.length_append]
       ·simp only [Array.size_append, List.size_toArray, size_zeroCells, hzc, hol, hnl, ← Nat.add_mul]
        exact Nat.mul_le_mul_right _ (by omega)
     split at he
     ·injection he with he
      subst he
      have hlen : ys.length ≤ 4294967296 := by have := hc.1; unfold appMax at this; omega
      have hup : Gone st.mem [(c2, Chunk.gone)] := fun p hp => by simp at hp; subst hp; exact ⟨rfl, by rw [hl2]; simp⟩
      have hf0 : Froms g st.mem [(c2, Chunk.gone)] (fun _ => none) := fun p b hp => by cases hp
      have hf2 : Froms g st.mem [(c2, Chunk.gone)] (g.f c2) := froms_seq h hl2 (by simp [lk_cons])
      obtain ⟨ab, rfl⟩ := (show ∃ a, sv = .slice a 0 0 from hs)
      by_cases hy : ys.length = 0
      ·have hy' : ys = [] := List.eq_nil_of_length_eq_zero hy
       subst hy'
       refine ⟨_, _, run_app_none (P := cx.P) hu hi, ?_⟩
       exact Did.glue (t := t2) (xs := []) (ys := []) (o := none) (F0 := []) (γ1 := fun _ => none) (arr1 := #[]) h hw ⟨rfl, rfl, rfl⟩ hup hf0 hf2 (fun _ _ _ hp => by cases hp) (fun p q b hp hq => (h.injp c2 c2 p q _ _ b hl2 trivial hl2 trivial hp hq).2) (fun _ _ _ hp => by cases hp) (fun b hb => by cases hb) (KeepF.refl _ _) (fun b hb => by simp at hb) ElsO.nil hels2 rfl ⟨ab, rfl⟩
      ·exact grow ab 0 [] (fun _ => none) #[] [] _ _ (by simpa using hlen) (by simp) (.inl rfl) (fun j v hj => by simp at hj) ElsO.nil hup hf0 hf2 (fun _ _ _ hp => by cases hp) (fun _ _ _ hp => by cases hp) (by simp; omega) hw
     ·rename_i c
      split at he
      ·rename_i t1 xs hl1
       split at he
       ·rename_i ht1
        subst ht1
        cases hcc : (!(Nat.beq c c2)) with
        | false => rw [hcc] at he; cases he
        | true =>
         rw [hcc] at he
         simp only [cond_true] at he
         injection he with he
         subst he
         have hw : Fresh st.mem [(st.nx, Chunk.seq t1 (xs ++ ys))] := hw
         show Runs cx st a w _ (⟨.one (.all st.nx), [(st.nx, .seq t1 (xs ++ ys))], [(c, .gone), (c2, .gone)], [List.length xs + List.length ys ≤ appMax]⟩ : Eff)
         have hne : c ≠ c2 := fun e => by subst e; simp at hcc
         have hlen : xs.length + ys.length ≤ 4294967296 := hc.1
         have hup : Gone st.mem [(c, Chunk.gone), (c2, Chunk.gone)] := fun p hp => by
          simp at hp
          rcases hp with rfl | rfl
          ·exact ⟨rfl, by rw [hl1]; simp⟩
          ·exact ⟨rfl, by rw [hl2]; simp⟩
         have hf1 : Froms g st.mem [(c, Chunk.gone), (c2, Chunk.gone)] (g.f c) := froms_seq h hl1 (by simp [lk_cons])
         have hf2 : Froms g st.mem [(c, Chunk.gone), (c2, Chunk.gone)] (g.f c2) := froms_seq h hl2 (by rw [lk_cons, if_neg (fun e => hne e.symm)]; simp [lk_cons])
         have hj1 : ∀ p q b, g.f c p = some b → g.f c q = some b → p = q := fun p q b hp hq => (h.injp c c p q _ _ b hl1 trivial hl1 trivial hp hq).2
         have hj2 : ∀ p q b, g.f c2 p = some b → g.f c2 q = some b → p = q := fun p q b hp hq => (h.injp c2 c2 p q _ _ b hl2 trivial hl2 trivial hp hq).2
         have hdj : ∀ p q b, g.f c p = some b → g.f c2 q = some b → False := fun p q b hp hq => hne (h.injp c c2 p q _ _ b hl1 trivial hl2 trivial hp hq).1
         rcases all_rel h hl1 hs with ⟨rfl, hg, ab, rfl⟩ | ⟨b, cap, arr, hg, rfl, hn, hblk, hfit, hmax, hels⟩
         ·by_cases hy : ys.length = 0
          ·have hy' : ys = [] := List.eq_nil_of_length_eq_zero hy
           subst hy'
           refine ⟨_, _, run_app_none (P := cx.P) hu hi, ?_⟩
           exact Did.glue (t := t1) (xs := []) (ys := []) (o := none) (F0 := []) (γ1 := g.f c) (arr1 := #[]) h hw ⟨rfl, rfl, rfl⟩ hup hf1 hf2 hj1 hj2 hdj (fun b hb => by cases hb) (KeepF.refl _ _) (fun b hb => by simp at hb) ElsO.nil hels2 rfl ⟨ab, rfl⟩
          ·exact grow ab 0 [] (g.f c) #[] [] _ _ hlen (by simp) (.inl rfl) (fun j v hj => by simp at hj) ElsO.nil hup hf1 hf2 hj1 hdj (Nat.lt_of_lt_of_eq (Nat.pos_of_ne_zero hy) (Nat.zero_add _).symm) hw
         ·have hle : xs.length * t1.size ≤ arr.size := Nat.le_trans (Nat.mul_le_mul_right _ hn) hfit
          by_cases hroom : xs.length + ys.length ≤ cap
          ·have hfit' : (xs.length + ys.length) * i.size ≤ arr.size := by rw [hsz]; exact Nat.le_trans (Nat.mul_le_mul_right _ hroom) hfit
           obtain ⟨w', arr', hr, hb', hl', hk', hs'⟩ := run_app_room (P := cx.P) (ty := ty) hu hi hblk (c := capx) hnl' hxc hone hroom hfit'
           refine ⟨_, _, hr, ?_⟩
           have hcell : ∀ k, arr'[k]? = (arr.toList.take (xs.length * i.size) ++ news ++ arr.toList.drop (xs.length * i.size + news.length))[k]? := fun k => by rw [← hl', Array.getElem?_toList]
           have htk : (arr.toList.take (xs.length * t1.size)).length = xs.length * t1.size := by simp; omega
           rw [hsz] at hcell
           refine Did.glue (o := some b) (F0 := [b]) h hw ⟨rfl, rfl, rfl⟩ hup hf1 hf2 hj1 hj2 hdj (fun b' hb2 => by injection hb2 with hb2; subst hb2; exact .inl hg) hk' (fun b' hb2 => by simp at hb2; subst hb2; exact ⟨hg, rfl⟩) hels hels2 ⟨arr', hb', fun j v hj hv => ?_, fun j v hj hv => ?_⟩ ?_
           ·rw [hcell, List.append_assoc, List.getElem?_append_left (by omega), List.getElem?_take, if_pos hj]
            simpa using hv
           ·rw [hcell, List.append_assoc, List.getElem?_append_right (by omega), htk, Nat.add_sub_cancel_left, List.getElem?_append_left (by omega)]
            exact hn2 j v hj hv
           ·refine ⟨cap, arr', by rw [List.length_append], by rw [List.length_append]; exact hroom, hb', ?_, hmax⟩
            have : arr'.size = arr.size := by
             rw [← Array.length_toList, hl']
             simp
             rw [hsz] at hfit' hnl' ⊢
             rw [Nat.add_mul] at hfit'
             omega
            omega
          ·refine grow _ cap xs (g.f c) arr (arr.toList.take (xs.length * t1.size)) _ _ hlen (by rw [hsz]; simp; omega) (.inr ⟨_, rfl, fun j v hv => ?_⟩) (fun j v hj hv => ?_) hels hup hf1 hf2 hj1 hdj (by omega) hw
           ·rw [add_none, Nat.zero_add, hblk.cell]
            rw [List.getElem?_take] at hv
            split at hv
            ·simpa using hv
            ·cases hv
           ·rw [List.getElem?_take, if_pos hj]; simpa using hv
       ·cases he
      ·cases he
     ·cases he
    ·cases he
  ·cases he
 ·cases he

def bldF (g : GM) (b : Nat) (cells : List ICell) : List Nat → Option Nat
 | [] => some b
 | i :: o :: r => if i = 0 then (match cells[o]? with
  | some (.all k) => g.f k r
  | _ => none) else none
 | _ => none

theorem iBuildO_sound {T : TypeId} {t : Ty} {len : Nat} {parts : List (Nat × IVal)} {vparts : Array (Nat × Value)} {e : Eff} (h : Sim cx g st a w) (hw : Fresh st.mem e.new) (he : iBuildO cx.P st.mem st.nx T t len parts = some e)
  (hp : All2 (fun (p : Nat × IVal) (q : Nat × Value) => p.1 = q.1 ∧ VR g st.mem (cx.safe g st.mem w) w p.2 q.2) parts vparts.toList) : Runs cx st a w (Instr.buildSlice T len vparts) e := by
 classical
 unfold iBuildO at he
 split at he
 ·rename_i el v hu
  cases hb : ((sizeT cx.P el == some t.size && (((cx.P.info? el).bind (·.zero)).map fun z => Nat.beq z.cells.size t.size) == some true) && (Nat.beq len 1 && Nat.ble t.size 65536) && v.ok) with
  | false => rw [hb] at he; cases he
  | true =>
   rw [hb] at he
   simp only [cond_true] at he
   simp only [Bool.and_eq_true, beq_iff_eq] at hb
   obtain ⟨⟨⟨hs, hz⟩, hn, h24⟩, hok⟩ := hb
   have hn := beq_of hn
   have h24 := ble_of h24
   subst hn
   split at he
   ·rename_i x ks hio
    cases hnd : nodupB ks with
    | false => rw [hnd] at he; cases he
    | true =>
     rw [hnd] at he
     simp only [cond_true] at he
     injection he with he
     subst he
     have hnd := nodupB_spec hnd
     obtain ⟨va, hvp, hva⟩ : ∃ va, vparts.toList = [(0, va)] ∧ VR g st.mem (cx.safe g st.mem w) w v va := by
      cases hq : vparts.toList with
      | nil => rw [hq] at hp; exact hp.elim
      | cons q r =>
       rw [hq] at hp
       obtain ⟨⟨h1, h2⟩, h3⟩ := hp
       cases r with
       | nil =>
        obtain ⟨j, va⟩ := q
        have h1 : 0 = j := h1
        subst h1
        exact ⟨va, rfl, h2⟩
       | cons => exact h3.elim
     have hfr : lk st.nx st.mem = none := hw (st.nx, .seq t [x]) (by simp)
     obtain ⟨vs, hvs, hall⟩ := cells_rel hok hva
     obtain ⟨c1, hcs, hc1, hlsk, hseq⟩ := implO_split t hio
     rw [List.append_nil] at hcs
     have hcl : va.cells.size = t.size := by rw [← Array.length_toList, hvs, ← hall.length, hcs, hc1]
     cases hi : cx.P.info? el with
     | none => simp [sizeT, hi] at hs
     | some i =>
      rw [hi] at hz
      simp only [Option.bind_some] at hz
      cases hzz : i.zero with
      | none => simp [hzz] at hz
      | some z =>
       rw [hzz] at hz
       have hz : Nat.beq z.cells.size t.size = true := by simpa using hz
       have hz := beq_of hz
       have htp := t.size_pos
       let base : Array Value := (Array.range t.size).map fun k => z.cells[k % z.cells.size]!
       have hbs : base.size = t.size := by simp [base]
       let arr' : Array Value := va.cells.zipIdx.foldl (fun cs (p : Value × Nat) => cs.setIfInBounds (0 + p.2) p.1) base
       have hfold : arr'.toList = va.cells.toList := by
        have := foldl_set 0 va.cells.toList 0 base (by rw [Array.length_toList]; omega)
        show (va.cells.zipIdx.foldl (fun cs (p : Value × Nat) => cs.setIfInBounds (0 + p.2) p.1) base).toList = _
        rw [← Array.foldl_toList, Array.toList_zipIdx]
        have h2 : base.toList.drop (0 + va.cells.toList.length) = [] := List.drop_of_length_le (by rw [Array.length_toList, Array.length_toList]; omega)
        refine this.trans ?_
        rw [h2]; simp
       have hrun : (Instr.buildSlice T 1 vparts).run cx.P w = .ok (.slice (some ⟨w.heap.size, 0, none⟩) 1 1) (w.alloc (.cells arr' el)) := by
        have h24' : ¬ (16777216 < t.size) := by omega
        have h0 : ¬ (t.size = 0) := by omega
        have e1 : Instr.fill (fun j => some (j * t.size, t.size)) base vparts.toList = some arr' := by
         rw [hvp]
         simp only [Instr.fill]
         rw [if_neg (by simp; omega)]
         simp [arr']
        have e1' : Instr.fill (fun j => some (j * t.size, t.size)) ((Array.range (1 * t.size)).map fun k => z.cells[k % z.cells.size]!) vparts.toList = some arr' := by
         rw [Nat.one_mul]; exact e1
        simp only [Instr.buildSlice, Sem.run_bind, run_underlying hu, Result.andThen_ok, run_sizeT hs]
        simp [h0, h24', zeroValue, typeInfo, hi, hzz] at e1' ⊢
        simp [e1', newRow]
       refine ⟨_, _, hrun, ?_⟩
       have hblk := blk.new w arr' el
       have hkeep : KeepF [] w (w.alloc (.cells arr' el)) := KeepF.alloc _ _ _
       let γ := bldF g w.heap.size v.cells
       let up : Mem := ks.map fun k => (k, Chunk.gone)
       have hupk : ∀ k, k ∈ ks → lk k up = some .gone := fun k hk => by
        have := lk_gones (k := k) (m := []) (ls := ks)
        rw [List.append_nil, if_pos hk] at this
        exact this
       have hup : Gone st.mem up := fun p hp => by
        obtain ⟨k, hk, rfl⟩ := List.mem_map.1 hp
        obtain ⟨t', xs', e1⟩ := hseq k hk
        exact ⟨rfl, by rw [e1]; simp⟩
       have hcons : ∀ i p b, γ (i :: p) = some b → i = 0 ∧ ∃ o r k, p = o :: r ∧ v.cells[o]? = some (.all k) ∧ g.f k r = some b := fun i p b hp => by
        cases p with
        | nil => cases hp
        | cons o r =>
         have hp : (if i = 0 then (match v.cells[o]? with
          | some (.all k) => g.f k r
          | _ => none) else none) = some b := hp
         split at hp
         ·rename_i hi
          split at hp
          ·rename_i k hk
           exact ⟨hi, o, r, k, rfl, hk, hp⟩
          ·cases hp
         ·cases hp
       have hin : ∀ (o k : Nat), v.cells[o]? = some (ICell.all k) → k ∈ ks := fun o k hk => by
        rw [hlsk]
        rw [hcs] at hk
        exact cellKeys_mem hk
       have hlt : ∀ i p b, γ (i :: p) = some b → b < w.heap.size := fun i p b hp => by
        obtain ⟨_, o, r, k, _, hk, hg⟩ := hcons i p b hp
        obtain ⟨t', xs', e1⟩ := hseq k (hin o k hk)
        exact h.lt k r _ b e1 trivial hg
       let G := (List.range w.heap.size).filter fun b => decide (∃ p, γ p = some b)
       have hGm : ∀ b, b ∈ G ↔ b < w.heap.size ∧ ∃ p, γ p = some b := fun b => by simp [G]
       have hkG : KeepF G w (w.alloc (.cells arr' el)) := ⟨hkeep.os, hkeep.tape, hkeep.output, hkeep.size, fun b hb _ => hkeep.block b hb (by simp), hkeep.sz⟩
       obtain ⟨g', hgn, hsim⟩ := h.newAt (ch := .seq t [x]) (γ := γ) hfr hup hkG (fun b hb => by
         obtain ⟨hl, p, hp⟩ := (hGm b).1 hb
         cases p with
         | nil =>
          have hp : some w.heap.size = some b := hp
          injection hp with hp
          omega
         | cons i p =>
          obtain ⟨_, o, r, k, _, hk, hg⟩ := hcons i p b hp
          have hkk := hin o k hk
          obtain ⟨t', xs', e1⟩ := hseq k hkk
          exact ⟨k, r, _, hupk k hkk, e1, trivial, hg⟩)
        (fun p b hp => by
         cases p with
         | nil =>
          have hp : some w.heap.size = some b := hp
          injection hp with hp
          subst hp
          exact ⟨hblk.lt, .inl (Nat.le_refl _)⟩
         | cons i p =>
          have := hlt i p b hp
          exact ⟨Nat.lt_of_lt_of_le this hkeep.size, .inr ((hGm b).2 ⟨this, _, hp⟩)⟩)
        (fun p q b hp hq => by
         cases p with
         | nil =>
          cases q with
          | nil => rfl
          | cons j q =>
           have hp : some w.heap.size = some b := hp
           injection hp with hp
           have := hlt j q b hq
           omega
         | cons i p =>
          cases q with
          | nil =>
           have hq : some w.heap.size = some b := hq
           injection hq with hq
           have := hlt i p b hp
           omega
          | cons j q =>
           obtain ⟨e1, o, r, k, rfl, hk, hg⟩ := hcons i p b hp
           obtain ⟨e2, o', r', k', rfl, hk', hg'⟩ := hcons j q b hq
           obtain ⟨t1, xs1, f1⟩ := hseq k (hin o k hk)
           obtain ⟨t2, xs2, f2⟩ := hseq k' (hin o' k' hk')
           obtain ⟨g1, g2⟩ := h.injp k k' r r' _ _ b f1 trivial f2 trivial hg hg'
           subst g1 g2 e1 e2
           have : o = o' := cellKeys_inj (cs := v.cells) (by rw [hcs, ← hlsk]; exact hnd) hk hk'
           rw [this])
        (fun g' m' S' hS => by
         show ChR g' m' S' (w.alloc (.cells arr' el)) γ (.seq t [x])
         refine ⟨arr', hblk, fun q hq => ?_⟩
         have hq0 : q = 0 := by simp at hq; exact hq
         subst hq0
         obtain ⟨v1, v2, ev, hel, hv2⟩ := implO_rel h.mem (S2 := cx.safe g st.mem w) (fun _ hb => hb) t (γ := fun p => γ (0 :: p)) (o := 0) hio hall (fun q hq k hk p => by
          show (if 0 = 0 then (match v.cells[0 + q]? with
           | some (.all k) => g.f k p
           | _ => none) else none) = _
          rw [if_pos rfl, Nat.zero_add, hk]) (fun q hq hk => by
          show (if 0 = 0 then (match v.cells[0 + q]? with
           | some (.all k) => g.f k []
           | _ => none) else none) = _
          rw [if_pos rfl, Nat.zero_add, hk])
         have : v2 = [] := by cases v2 with | nil => rfl | cons => exact hv2.elim
         subst this
         rw [List.append_nil] at ev
         subst ev
         refine ⟨vs, fun j u hu => ?_, ElR.keep hS t (fun p b hp => hkeep.block b (hlt _ _ b hp) (by simp)) hel⟩
         rw [Nat.zero_mul, Nat.zero_add, ← Array.getElem?_toList, hfold, hvs]
         exact hu)
       refine ⟨g', hsim, ?_⟩
       have hl : lk st.nx (up ++ [(st.nx, .seq t [x])] ++ st.mem) = some (.seq t [x]) := by
        rw [List.append_assoc, lk_append]
        cases hq : lk st.nx up with
        | none => simp [lk_cons]
        | some c0 => exact absurd hfr (hup.lk hq).2
       refine ⟨by rw [hl]; simp, rfl, fun t' xs' hl' => ?_⟩
       have hl' := SeqAt.toSeq hl hl'
       rw [hl] at hl'
       injection hl' with hl'
       injection hl' with ht hxs
       subst ht
       have hxs := eq_of_heq hxs
       subst hxs
       rw [show g' st.nx = some w.heap.size from by show g'.f st.nx [] = _; rw [hgn]; rfl]
       refine ⟨1, arr', rfl, Nat.le_refl _, hblk, ?_, by unfold maxLen; omega⟩
       rw [← Array.length_toList, hfold, Array.length_toList, hcl]
       omega
   ·cases he
 ·cases he

theorem iAppendX_sound {T T' : TypeId} {ty : TypeId} {t : Ty} {s x : IVal} {e : Eff} {sv xv : Value} (h : Sim cx g st a w) (hw : Fresh st.mem e.new) (he : iAppendX cx.P st.mem st.nx T T' t s x = some e) (hc : AllP e.cond)
  (hs : VR g st.mem (cx.safe g st.mem w) w s sv) (hx : VR g st.mem (cx.safe g st.mem w) w x xv) : Runs cx st a w (Builtin.append_ #[T, T'] ty #[sv, xv]) e := by
 unfold iAppendX at he
 cases ht : t.top with
 | true => rw [ht] at he; exact iAppend_sound h hw he hc hs hx
 | false => rw [ht] at he; exact iAppO_sound h hw he hc hs hx

theorem iBuildX_sound {T : TypeId} {t : Ty} {len : Nat} {parts : List (Nat × IVal)} {vparts : Array (Nat × Value)} {e : Eff} (h : Sim cx g st a w) (hw : Fresh st.mem e.new) (he : iBuildX cx.P st.mem st.nx T t len parts = some e)
  (hp : All2 (fun (p : Nat × IVal) (q : Nat × Value) => p.1 = q.1 ∧ VR g st.mem (cx.safe g st.mem w) w p.2 q.2) parts vparts.toList) : Runs cx st a w (Instr.buildSlice T len vparts) e := by
 unfold iBuildX at he
 cases ht : t.top with
 | true => rw [ht] at he; exact iBuildSlice_sound h hw he hp
 | false => rw [ht] at he; exact iBuildO_sound h hw he hp

end
end Go.Ide


/-
 An operation of a region: what it does in the ideal machine, and that the model does so.
-/
namespace Go.Ide

def evl (fr : Fr) : List Operand → Option (List IVal)
 | [] => some []
 | x :: r => match ev fr x, evl fr r with
  | some v, some l => some (v :: l)
  | _, _ => none

def evo (fr : Fr) : Option Operand → Option (Option IVal)
 | none => some none
 | some x => match ev fr x with
  | some v => some (some v)
  | none => none

def iLenT (P : Program) (m : Mem) (T : TypeId) (x : IVal) : Option Eff :=
 match P.underlying T, x with
 | some .string, .one (.dat .str _) => iLen m x
 | some (.slice _), .one (.dat (.sl _) _) => iLen m x
 | some (.slice _), .one (.all _) => iLen m x
 | some (.slice _), .one (.ref _ _ _) => iLen m x
 | some (.slice _), .one (.row _ _ _) => iLen m x
 | some (.slice _), .one .nilS => iLen m x
 | _, _ => none

def iIndex (P : Program) (T : TypeId) (x i : IVal) : Option Eff :=
 match P.underlying T, x, i with
 | some .string, .one (.dat .str s), .one (.dat (.int _) n) =>
  pureC (.one (.dat (.int .u8) ((((List.getD s (Int.toNat n) 0 : UInt8).toNat : Nat)) : Int))) [(0 : Int) ≤ n ∧ n < ((List.length s : Nat) : Int)]
 | _, _, _ => none

def iNil (x : IVal) : Option Eff :=
 match x with
 | .one (.ptr c off) => pureE (.one (.ptr c off))
 | .one (.ip t y off) => pureE (.one (.ip t y off))
 | .one (.elp c i sz off) => pureE (.one (.elp c i sz off))
 | .one (.rlp c i o j sz off) => pureE (.one (.rlp c i o j sz off))
 | _ => none

def iBuiltin (P : Program) (fr : Fr) (m : Mem) (nx : Nat) (h : Hint) (b : Builtin) (args : List Operand) (ts : List TypeId) : Option Eff :=
 match b, args, ts with
 | .len, [x], [T] => (match ev fr x with
  | some v => iLenT P m T v
  | none => none)
 | .append, [s, x], [T, T'] => (match h, ev fr s, ev fr x with
  | .ty t, some sv, some xv => iAppendX P m nx T T' t sv xv
  | .no, some sv, some xv => iAppendS P m nx T T' sv xv
  | .tyD t, some sv, some xv => iAppendZ P nx T T' t sv xv
  | _, _, _ => none)
 | .min, [x, y], _ => (match ev fr x, ev fr y with
  | some xv, some yv => iMin xv yv
  | _, _ => none)
 | .max, [x, y], _ => (match ev fr x, ev fr y with
  | some xv, some yv => iMax xv yv
  | _, _ => none)
 | .copy, [x, y], [T, _] => (match ev fr x, ev fr y with
  | some xv, some yv => iCopy P m T xv yv
  | _, _ => none)
 | .cap, [x], [T] => (match ev fr x, P.underlying T with
  | some (.one .nilS), some (.slice _) => pureE (.one (.dat (.int .i64) (0 : Int)))
  | _, _ => none)
 | _, _, _ => none

def iClo (f : FuncId) (vs : List IVal) : Option Eff :=
 match vs with
 | [.one (.ip t x 0)] => pureE (.one (.clo f t x))
 | _ => none

def iop (P : Program) (fr : Fr) (m : Mem) (nx : Nat) (h : Hint) (o : Oper) : Option Eff :=
 match o.op with
 | .move x => (match ev fr x with
  | some v => pureE v
  | none => none)
 | .assign x => (match ev fr x with
  | some v => pureE v
  | none => none)
 | .pick c x y => (match h with
  | .tv b => (match ev fr c, ev fr (if b then x else y) with
   | some cv, some v => iPick b cv v v
   | _, _ => none)
  | _ => none)
 | .alloc T => (match h with
  | .ty t => iAllocB P nx T t
  | _ => iAlloc P nx T)
 | .box _ x => (match ev fr x with
  | some v => (match h with
   | .ty t => iBoxB nx t v
   | _ => iBox nx v)
  | none => none)
 | .build T parts => (match evs fr parts.toList with
  | some vs => iBuild P T vs
  | none => none)
 | .buildSlice T len parts => (match h, evs fr parts.toList with
  | .ty t, some vs => iBuildX P m nx T t len vs
  | .tyD t, some vs => iBuildSliceD P nx T t len vs
  | .no, some vs => iEmpty P T len vs
  | _, _ => none)
 | .load T x => (match ev fr x with
  | some v => iLoadH P m nx h T v
  | none => none)
 | .store T x y => (match ev fr x, ev fr y with
  | some xv, some yv => iStoreH P m nx h T xv yv
  | _, _ => none)
 | .nilCheck x => (match ev fr x with
  | some v => iNil v
  | none => none)
 | .binOp op T x y _ => (match ev fr x, ev fr y with
  | some xv, some yv => iBinF P T op xv yv
  | _, _ => none)
 | .unOp op _ x => (match ev fr x with
  | some v => iUnF op v
  | none => none)
 | .convert T U x => (match ev fr x with
  | some v => iConvertM P m nx T U v
  | none => none)
 | .makeSlice T l c => (match h, ev fr l, ev fr c with
  | .ty t, some lv, some cv => iMakeSlice P nx T t lv cv
  | _, _, _ => none)
 | .slice T x lo hi none => (match ev fr x, evo fr lo, evo fr hi with
  | some v, some l, some h => iSlice P m T v l h
  | _, _, _ => none)
 | .slice T x lo hi (some q) => (match ev fr x, evo fr lo, evo fr hi, ev fr q with
  | some v, some l, some h, some r => iSliceM P T v l h (some r)
  | _, _, _, _ => none)
 | .fieldAddr T x f => (match ev fr x with
  | some v => iFieldAddr P T v f
  | none => none)
 | .indexAddr T x i => (match ev fr x, ev fr i with
  | some v, some j => iIndexAddr P m T v j
  | _, _ => none)
 | .index T x i => (match ev fr x, ev fr i with
  | some v, some j => iIndex P T v j
  | _, _ => none)
 | .extract x i => (match ev fr x with
  | some v => iExtract v i
  | none => none)
 | .makeFunc (.func f) first captured => (match evl fr captured.toList with
  | some vs => bif first.isEmpty then iClo f vs else none
  | none => none)
 | .call c => (match c.callee with
  | .builtin b => iBuiltin P fr m nx h b c.args.toList c.argTypes.toList
  | .value f => (match h, ev fr f, evl fr c.args.toList with
   | .call ms rs outs, some (.one (.fn k)), some vs => iCall P m nx ms rs outs k vs
   | .call ms rs outs, some (.one (.clo k t x)), some vs => iCall P m nx ms rs outs k (vs ++ [.one (.ip t x 0)])
   | _, _, _ => none)
  | _ => none)
 | _ => none

section
variable {cx : Cx} {g : GM} {st : St} {a : Act} {w : World}

theorem evl_VR (h : Sim cx g st a w) : ∀ {xs : List Operand} {vs : List IVal}, evl st.fr xs = some vs → All2 (VR g st.mem (cx.safe g st.mem w) w) vs (xs.map a.eval)
 | [], vs, he => by simp only [evl] at he; injection he with he; subst he; trivial
 | x :: xs, vs, he => by
  simp only [evl] at he
  split at he
  ·rename_i v l hv hl
   injection he with he
   subst he
   exact ⟨ev_VR h hv, evl_VR h hl⟩
  ·cases he

theorem evo_VR (h : Sim cx g st a w) {x : Option Operand} {v : Option IVal} (he : evo st.fr x = some v) : OR g st.mem (cx.safe g st.mem w) w v (x.map a.eval) := by
 cases x with
 | none => simp only [evo] at he; injection he with he; subst he; trivial
 | some x =>
  simp only [evo] at he
  split at he
  ·rename_i u hu
   injection he with he
   subst he
   exact ev_VR h hu
  ·cases he

theorem evs_VR (h : Sim cx g st a w) : ∀ {xs : List (Nat × Operand)} {vs : List (Nat × IVal)}, evs st.fr xs = some vs →
  All2 (fun (p : Nat × IVal) (q : Nat × Value) => p.1 = q.1 ∧ VR g st.mem (cx.safe g st.mem w) w p.2 q.2) vs (xs.map fun (i, x) => (i, a.eval x))
 | [], vs, he => by simp only [evs] at he; injection he with he; subst he; trivial
 | (i, x) :: xs, vs, he => by
  simp only [evs] at he
  split at he
  ·rename_i v l hv hl
   injection he with he
   subst he
   exact ⟨⟨rfl, ev_VR h hv⟩, evs_VR h hl⟩
  ·cases he

def Does (cx : Cx) (st : St) (a : Act) (w : World) (o : Oper) (e : Eff) : Prop :=
 (∃ val w', (execOp a.eval o).run cx.P w = .ok (.value val) w' ∧ Did cx st a e val w') ∨
 (∃ w', (execOp a.eval o).run cx.P w = .ok .skip w' ∧ Did cx st a e undef w') ∨
 (∃ f args, (execOp a.eval o).run cx.P w = .ok (.enter f args) w ∧ Calls cx.P f args w fun en w' => ∃ v, en = .returned v ∧ Did cx st a e v w')

theorem Does.wp {o : Oper} {e : Eff} {K : Act → World → Prop} {Q : Exit → Act → World → Prop} (h : Does cx st a w o e) (hk : ∀ val w', Did cx st a e val w' → K (a.put o.dst val) w') : o.wp cx.P a w K Q := by
 unfold Oper.wp
 rcases h with ⟨val, w', h1, h2⟩ | ⟨w', h1, h2⟩ | ⟨f, args, h1, h2⟩
 ·rw [h1]; exact hk val w' h2
 ·rw [h1]; exact hk undef w' h2
 ·rw [h1]
  exact h2.mono fun en w' ⟨v, e1, hd⟩ => by subst e1; exact hk v w' hd

theorem Runs.does {o : Oper} {e : Eff} {s : Sem Value} (h : Runs cx st a w s e) (he : execOp a.eval o = (do pure (.value (← s)))) : Does cx st a w o e := by
 obtain ⟨val, w', h1, h2⟩ := h
 exact .inl ⟨val, w', by rw [he]; simp [h1], h2⟩

theorem RunsU.does {o : Oper} {e : Eff} {s : Sem Unit} (h : RunsU cx st a w s e) (he : execOp a.eval o = (do s; pure .skip)) : Does cx st a w o e := by
 obtain ⟨w', h1, h2⟩ := h
 exact .inr (.inl ⟨w', by rw [he]; simp [h1], h2⟩)

theorem Does.pure {o : Oper} {e : Eff} {v : IVal} {val : Value} (h : Sim cx g st a w) (he : execOp a.eval o = Pure.pure (.value val)) (hp : e.new = [] ∧ e.upd = [] ∧ e.val = v) (hv : VR g st.mem (cx.safe g st.mem w) w v val) : Does cx st a w o e := by
 refine .inl ⟨val, w, by rw [he]; rfl, g, ?_, ?_⟩
 ·rw [hp.1, hp.2.1]; exact h
 ·rw [hp.1, hp.2.1, hp.2.2]; exact hv

def PlainV (u : Value) : Prop := (∃ k n, u = .int k n) ∨ (∃ s, u = .string s) ∨ (∃ b, u = .bool b)

theorem eqGuard_flt {P : Program} {op : BinOp} {T : TypeId} {x y : Operand} {k : FloatKind} {b : Nat} {v : Value} : (eqGuard op T x y (.float k b) v).run P w = .ok () w := by
 cases op <;> cases v <;> rfl

theorem eqGuard_run {P : Program} {op : BinOp} {T : TypeId} {x y : Operand} {u v : Value} (h : PlainV u) : (eqGuard op T x y u v).run P w = .ok () w := by
 rcases h with ⟨k, n, rfl⟩ | ⟨s, rfl⟩ | ⟨b, rfl⟩ <;> cases op <;> cases v <;> rfl

theorem iBin_vals {op : BinOp} {T : TypeId} {x y : IVal} {e : Eff} {u : Value} (he : iBin cx.P T op x y = some e) (hx : VR g st.mem (cx.safe g st.mem w) w x u) : PlainV u := by
 unfold iBin at he
 split at he
 ·exact .inl ⟨_, _, dat_int (g := g) (m := st.mem) (S := cx.safe g st.mem w) (w := w) hx⟩
 ·exact .inr (.inl ⟨_, dat_str (g := g) (m := st.mem) (S := cx.safe g st.mem w) (w := w) hx⟩)
 ·exact .inr (.inr ⟨_, dat_bool (g := g) (m := st.mem) (S := cx.safe g st.mem w) (w := w) hx⟩)
 ·cases he

theorem iBinF_guard {op : BinOp} {T : TypeId} {x y : IVal} {xo yo : Operand} {e : Eff} {u v : Value} {w' : World} (he : iBinF cx.P T op x y = some e) (hx : VR g st.mem (cx.safe g st.mem w) w x u)
  (hy : VR g st.mem (cx.safe g st.mem w) w y v) : (eqGuard op T xo yo u v).run cx.P w' = .ok () w' := by
 unfold iBinF at he
 split at he
 ·obtain ⟨b, e, _⟩ := dat_flt (g := g) (m := st.mem) (S := cx.safe g st.mem w) (w := w) hx
  rw [e]
  exact eqGuard_flt
 ·obtain ⟨us, rfl, _⟩ := hx
  obtain ⟨vs, rfl, _⟩ := hy
  exact iStructEq_guard he
 ·exact eqGuard_run (iBin_vals he hx)

theorem iIndex_sound {P : Program} {m : Mem} {S : Nat → Prop} {T : TypeId} {x i : IVal} {e : Eff} {xa ia : Value} (h : iIndex P T x i = some e) (hc : AllP e.cond) (hx : VR g m S w x xa) (hi : VR g m S w i ia) : Gives P g m S w (Instr.index T xa ia) e := by
 unfold iIndex at h
 split at h
 ·rename_i s k n hu
  obtain ⟨he, hco⟩ := pureC_eq h
  rw [hco] at hc
  obtain ⟨⟨h0, h1⟩, _⟩ := hc
  have e1 := dat_str (g := g) (m := m) (S := S) (w := w) hx
  have e2 := dat_int (g := g) (m := m) (S := S) (w := w) hi
  subst e1
  subst e2
  have hlt : Int.toNat n < List.length s := toNat_lt h0 h1
  refine Gives.mk he (r := .int .u8 ((((List.getD s (Int.toNat n) 0 : UInt8).toNat : Nat)) : Int)) ?_ rfl
  have hsz : Int.toNat n < (⟨List.toArray s⟩ : ByteArray).size := by simpa [ByteArray.size] using hlt
  have hget : (⟨List.toArray s⟩ : ByteArray)[Int.toNat n]? = some (List.getD s (Int.toNat n) 0) := by
   rw [getElem?_pos (⟨List.toArray s⟩ : ByteArray) (Int.toNat n) hsz]
   congr 1
   rw [getD_eq hlt]
   rfl
  have h0' : (0 : Int) ≤ n := h0
  simp only [Instr.index, Sem.run_bind, run_underlying hu, Result.andThen_ok, asIntOf, Sem.run_pure]
  rw [if_pos h0', hget]
  rfl
 ·cases h

theorem one_ip {g : GM} {m : Mem} {S : Nat → Prop} {w : World} {k : FuncId} {t : Ty} {x : t.D} {v : Value} {ad : Addr} (h : CR g m S w (.clo k t x) v) (e : v = .func (.func k) #[] #[.pointer (some ad)]) : All2 (VR g m S w) [.one (.ip t x 0)] [.pointer (some ad)] := by
 obtain ⟨ad', es, e', hs, hcell, hrep⟩ := h
 rw [e] at e'
 injection e' with _ _ e'
 injection e' with e'
 injection e' with e' _
 injection e' with e'
 injection e' with e'
 subst e'
 have e2 : ad.add 0 = ad := by simp [Addr.add]
 exact ⟨⟨ad, es, by rw [e2], hs, hcell, hrep⟩, trivial⟩

theorem args_app {α : Type} (f : α → Value) (xs : Array α) (v : Value) : xs.map f ++ #[v] = (xs.toList.map f ++ [v]).toArray := by
 apply Array.ext'
 simp


theorem iop_sound {h : Hint} {o : Oper} {e : Eff} (hs : Sim cx g st a w) (hw : Fresh st.mem e.new) (he : iop cx.P st.fr st.mem st.nx h o = some e) (hc : AllP e.cond) : Does cx st a w o e := by
 unfold iop at he
 split at he
 ·rename_i x ho
  split at he
  ·rename_i v hv
   exact Does.pure hs (by simp only [execOp, ho]) (pureE_eq he) (ev_VR hs hv)
  ·cases he
 ·rename_i x ho
  split at he
  ·rename_i v hv
   exact Does.pure hs (by simp only [execOp, ho]) (pureE_eq he) (ev_VR hs hv)
  ·cases he
 ·rename_i c x y ho
  split at he
  ·rename_i b
   split at he
   ·rename_i cv v hcv hv
    unfold iPick at he
    split at he
    ·rename_i t
     obtain ⟨hp, hco⟩ := pureC_eq he
     rw [hco] at hc
     have ht : t = b := hc.1
     have e1 := dat_bool (g := g) (m := st.mem) (S := cx.safe g st.mem w) (w := w) (ev_VR hs hcv)
     have hv' := ev_VR hs hv
     refine .inl ⟨a.eval (if b then x else y), w, ?_, g, ?_, ?_⟩
     ·simp only [execOp, ho, e1, asBool]
      rw [ht]
      cases b <;> rfl
     ·rw [hp.1, hp.2.1]; exact hs
     ·rw [hp.1, hp.2.1, hp.2.2]
      cases b <;> exact hv'
    ·cases he
   ·cases he
  ·cases he
 ·rename_i T ho
  split at he
  ·exact (iAllocB_sound hs hw he).does (by simp only [execOp, ho])
  ·exact (iAlloc_sound hs hw he).does (by simp only [execOp, ho])
 ·rename_i T x ho
  split at he
  ·rename_i v hv
   split at he
   ·exact (iBoxB_sound (T := T) hs hw he (ev_VR hs hv)).does (by simp only [execOp, ho])
   ·exact (iBox_sound (T := T) hs hw he (ev_VR hs hv)).does (by simp only [execOp, ho])
  ·cases he
 ·rename_i T parts ho
  split at he
  ·rename_i vs hvs
   have := iBuild_sound (P := cx.P) (g := g) (m := st.mem) (S := cx.safe g st.mem w) (w := w) (vparts := parts.map fun (i, x) => (i, a.eval x)) he (by simpa using evs_VR hs hvs)
   exact (this.runs hs).does (by simp only [execOp, ho])
  ·cases he
 ·rename_i T len parts ho
  split at he
  ·rename_i t vs hvs
   have := iBuildX_sound (vparts := parts.map fun (i, x) => (i, a.eval x)) hs hw he (by simpa using evs_VR hs hvs)
   exact this.does (by simp only [execOp, ho])
  ·rename_i t vs hvs
   have := iBuildSliceD_sound (vparts := parts.map fun (i, x) => (i, a.eval x)) hs he (by simpa using evs_VR hs hvs)
   exact this.does (by simp only [execOp, ho])
  ·rename_i vs hvs
   have := iEmpty_sound (vparts := parts.map fun (i, x) => (i, a.eval x)) hs he (by simpa using evs_VR hs hvs)
   exact this.does (by simp only [execOp, ho])
  ·cases he
 ·rename_i T x ho
  split at he
  ·rename_i v hv
   exact (iLoadH_sound hs hw he hc (ev_VR hs hv)).does (by simp only [execOp, ho])
  ·cases he
 ·rename_i T x y ho
  split at he
  ·rename_i xv yv hx hy
   exact (iStoreH_sound hs hw he hc (ev_VR hs hx) (ev_VR hs hy)).does (by simp only [execOp, ho])
  ·cases he
 ·rename_i x ho
  split at he
  ·rename_i v hv
   have hv' := ev_VR hs hv
   unfold iNil at he
   split at he
   ·obtain ⟨_, b, _, e1⟩ := hv'
    exact Does.pure hs (by simp [execOp, ho, e1]; rfl) (pureE_eq he) (by rw [← e1]; exact ev_VR hs hv)
   ·obtain ⟨ad, es, e1, _⟩ := hv'
    exact Does.pure hs (by simp [execOp, ho, e1]; rfl) (pureE_eq he) (by rw [← e1]; exact ev_VR hs hv)
   ·obtain ⟨_, b, _, e1⟩ := hv'
    exact Does.pure hs (by simp [execOp, ho, e1]; rfl) (pureE_eq he) (by rw [← e1]; exact ev_VR hs hv)
   ·obtain ⟨_, b, e1, _⟩ := hv'
    exact Does.pure hs (by simp [execOp, ho, e1]; rfl) (pureE_eq he) (by rw [← e1]; exact ev_VR hs hv)
   ·cases he
  ·cases he
 ·rename_i op T x y T' ho
  split at he
  ·rename_i xv yv hx hy
   obtain ⟨r, w', k3, k4⟩ := iBinF_sound hs he hc (ev_VR hs hx) (ev_VR hs hy)
   refine .inl ⟨r, w', ?_, k4⟩
   have hg := iBinF_guard (xo := x) (yo := y) (w' := w) he (ev_VR hs hx) (ev_VR hs hy)
   simp only [execOp, ho, Sem.run_bind, hg, Result.andThen_ok, k3, Sem.run_pure]
  ·cases he
 ·rename_i op T x ho
  split at he
  ·rename_i v hv
   exact ((iUnF_sound he (ev_VR hs hv)).runs hs).does (by simp only [execOp, ho])
  ·cases he
 ·rename_i T U x ho
  split at he
  ·rename_i v hv
   exact (iConvertM_sound hs hw he hc (ev_VR hs hv)).does (by simp only [execOp, ho])
  ·cases he
 ·rename_i T l c ho
  split at he
  ·rename_i t lv cv hl hcv
   exact (iMakeSlice_sound hs hw he hc (ev_VR hs hl) (ev_VR hs hcv)).does (by simp only [execOp, ho])
  ·cases he
 ·rename_i T x lo hi ho
  split at he
  ·rename_i v l h' hv hl hh
   exact ((iSlice_sound hs.mem he hc (ev_VR hs hv) (evo_VR hs hl) (evo_VR hs hh)).runs hs).does (by simp only [execOp, ho]; rfl)
  ·cases he
 ·rename_i T x lo hi q ho
  split at he
  ·rename_i v l h' r hv hl hh hq
   exact ((iSliceM_sound he hc (ev_VR hs hv) (evo_VR hs hl) (evo_VR hs hh) (mx := some r) (qv := some (a.eval q)) (ev_VR hs hq)).runs hs).does (by simp only [execOp, ho]; rfl)
  ·cases he
 ·rename_i T x f ho
  split at he
  ·rename_i v hv
   exact ((iFieldAddr_sound he (ev_VR hs hv)).runs hs).does (by simp only [execOp, ho])
  ·cases he
 ·rename_i T x i ho
  split at he
  ·rename_i v j hv hj
   exact ((iIndexAddr_sound hs.mem he hc (ev_VR hs hv) (ev_VR hs hj)).runs hs).does (by simp only [execOp, ho])
  ·cases he
 ·rename_i T x i ho
  split at he
  ·rename_i v j hv hj
   exact ((iIndex_sound he hc (ev_VR hs hv) (ev_VR hs hj)).runs hs).does (by simp only [execOp, ho])
  ·cases he
 ·rename_i x i ho
  split at he
  ·rename_i v hv
   exact ((iExtract_sound he (ev_VR hs hv)).runs hs).does (by simp only [execOp, ho])
  ·cases he
 ·rename_i f first captured ho
  split at he
  ·rename_i vs hvs
   cases hfe : first.isEmpty with
   | false => rw [hfe] at he; cases he
   | true =>
    rw [hfe] at he
    simp only [cond_true] at he
    have hf0 : first = #[] := by simpa using hfe
    subst hf0
    unfold iClo at he
    split at he
    ·rename_i t x
     have hall := evl_VR hs hvs
     have hcap : captured.map a.eval = (captured.toList.map a.eval).toArray := by apply Array.ext'; rw [Array.toList_map]
     cases hcl : captured.toList.map a.eval with
     | nil => rw [hcl] at hall; exact hall.elim
     | cons u r =>
      rw [hcl] at hall
      cases r with
      | cons => exact hall.2.elim
      | nil =>
       obtain ⟨ad, es, e1, hs1, hcell, hrep⟩ := hall.1
       have e2 : ad.add 0 = ad := by simp [Addr.add]
       rw [e2] at e1
       exact Does.pure hs (val := .func (.func f) #[] (captured.map a.eval)) (by simp [execOp, ho, Instr.makeFunc]) (pureE_eq he) ⟨ad, es, by rw [hcap, hcl, e1], hs1, hcell, hrep⟩
    ·cases he
  ·cases he
 ·rename_i c ho
  split at he
  ·rename_i b hb
   have hres : ∀ (consts : Array Bool), resolve a.eval c o.type = pure { target := .builtin b c.argTypes o.type (c.args.map fun | .const _ => true | _ => false), args := c.args.map a.eval } := fun _ => by
    unfold resolve; rw [hb]; rfl
   have hargs : ∀ l, c.args.toList = l → c.args.map a.eval = (l.map a.eval).toArray := fun l hl => by
    subst hl; apply Array.ext'; rw [Array.toList_map]
   have htys : ∀ l, c.argTypes.toList = l → c.argTypes = l.toArray := fun l hl => by subst hl; rfl
   unfold iBuiltin at he
   split at he
   ·rename_i x T hal htl
    split at he
    ·rename_i v hv
     have hv' := ev_VR hs hv
     have hg : Gives cx.P g st.mem (cx.safe g st.mem w) w (Builtin.len_ #[T] o.type #[a.eval x]) e := by
      unfold iLenT at he
      split at he
      ·rename_i s hu
       refine iLen_sound (T := T) hs.mem (by simp [isSl, hu]) he hv' rfl (fun _ _ => hu) (fun a' n c' e' => ?_)
       have := dat_str (g := g) (m := st.mem) (S := cx.safe g st.mem w) (w := w) hv'
       rw [this] at e'; cases e'
      ·rename_i el t xs hu
       refine iLen_sound (T := T) hs.mem (by simp [isSl, hu]) he hv' rfl (fun s e' => ?_) (fun _ _ _ _ => ⟨el, hu⟩)
       obtain ⟨a', cap, e1, _⟩ := hv'
       have e1 : a.eval x = .slice a' (List.length xs) cap := by simpa using e1
       rw [e1] at e'; cases e'
      ·rename_i el c' hu
       refine iLen_sound (T := T) hs.mem (by simp [isSl, hu]) he hv' rfl (fun s e' => ?_) (fun _ _ _ _ => ⟨el, hu⟩)
       have sq : ∀ t xs, SeqAt st.mem c' t xs → False := fun t xs hl => by
        have hx := hv'.2.2 t xs hl
        unfold AllR at hx
        cases hg : g c' with
        | none => rw [hg] at hx; obtain ⟨a', ha⟩ := hx; rw [ha] at e'; cases e'
        | some b => rw [hg] at hx; obtain ⟨cap, arr, ha, _⟩ := hx; rw [ha] at e'; cases e'
       unfold iLen at he
       simp only at he
       split at he
       ·rename_i t xs hl
        exact (sq t xs (.inl hl)).elim
       ·rename_i t xs i cs ks hl
        exact (sq t xs (.inr ⟨i, cs, ks, hl⟩)).elim
       ·cases he
      ·rename_i el c' off len hu
       refine iLen_sound (T := T) hs.mem (by simp [isSl, hu]) he hv' rfl (fun s e' => ?_) (fun _ _ _ _ => ⟨el, hu⟩)
       unfold iLen at he
       simp only at he
       split at he
       ·rename_i t xs hl
        obtain ⟨_, hx⟩ := hv'.2.2 t xs (.inl hl)
        rcases hx with ⟨_, _, a', ha⟩ | ⟨b, cap, arr, _, ha, _⟩
        ·rw [ha] at e'; cases e'
        ·rw [ha] at e'; cases e'
       ·cases he
      ·rename_i el c' i o hu
       refine iLen_sound (T := T) hs.mem (by simp [isSl, hu]) he hv' rfl (fun s e' => ?_) (fun _ _ _ _ => ⟨el, hu⟩)
       unfold iLen at he
       simp only at he
       split at he
       ·rename_i t xs hl
        split at he
        ·rename_i e2 ys hsl
         have hx := (hv'.2.2 t xs hl).2 e2 ys hsl
         unfold AllR at hx
         cases hg : g.f c' [i, o] with
         | none => rw [hg] at hx; obtain ⟨a', ha⟩ := hx; rw [ha] at e'; cases e'
         | some b => rw [hg] at hx; obtain ⟨cap, arr, ha, _⟩ := hx; rw [ha] at e'; cases e'
        ·cases he
       ·cases he
      ·rename_i el hu
       refine iLen_sound (T := T) hs.mem (by simp [isSl, hu]) he hv' rfl (fun s e' => ?_) (fun _ _ _ _ => ⟨el, hu⟩)
       obtain ⟨a', ha⟩ := hv'
       rw [ha] at e'; cases e'
      ·cases he
     refine (hg.runs hs).does ?_
     simp only [execOp, ho, hres #[], hargs _ hal, htys _ htl]
     rfl
    ·cases he
   ·rename_i s x T T' hal htl
    split at he
    ·rename_i t sv xv hsv hxv
     refine (iAppendX_sound (ty := o.type) hs hw he hc (ev_VR hs hsv) (ev_VR hs hxv)).does ?_
     simp only [execOp, ho, hres #[], hargs _ hal, htys _ htl]
     rfl
    ·rename_i sv xv hsv hxv
     refine (iAppendS_sound (ty := o.type) hs hw he hc (ev_VR hs hsv) (ev_VR hs hxv)).does ?_
     simp only [execOp, ho, hres #[], hargs _ hal, htys _ htl]
     rfl
    ·rename_i t sv xv hsv hxv
     refine (iAppendZ_sound (ty := o.type) hs hw he hc (ev_VR hs hsv) (ev_VR hs hxv)).does ?_
     simp only [execOp, ho, hres #[], hargs _ hal, htys _ htl]
     rfl
    ·cases he
   ·rename_i x y _ hal
    split at he
    ·rename_i xv yv hx hy
     refine ((iMin_sound (Ts := c.argTypes) (T := o.type) he (ev_VR hs hx) (ev_VR hs hy)).runs hs).does ?_
     simp only [execOp, ho, hres #[], hargs _ hal]
     rfl
    ·cases he
   ·rename_i x y _ hal
    split at he
    ·rename_i xv yv hx hy
     refine ((iMax_sound (Ts := c.argTypes) (T := o.type) he (ev_VR hs hx) (ev_VR hs hy)).runs hs).does ?_
     simp only [execOp, ho, hres #[], hargs _ hal]
     rfl
    ·cases he
   ·rename_i x y T T' hal htl
    split at he
    ·rename_i xv yv hx hy
     refine (iCopy_sound (T' := T') (ty := o.type) hs he (ev_VR hs hx) (ev_VR hs hy)).does ?_
     simp only [execOp, ho, hres #[], hargs _ hal, htys _ htl]
     rfl
    ·cases he
   ·rename_i x T hal htl
    split at he
    ·rename_i el hv hu
     obtain ⟨ad, e1⟩ := ev_VR hs hv
     have hg : Gives cx.P g st.mem (cx.safe g st.mem w) w (Builtin.cap_ #[T] o.type #[a.eval x]) e := by
      refine Gives.mk (pureE_eq he) (r := .int .i64 0) ?_ rfl
      rw [e1]
      simp [Builtin.cap_, run_underlying hu, goInt]
     refine (hg.runs hs).does ?_
     simp only [execOp, ho, hres #[], hargs _ hal, htys _ htl]
     rfl
    ·cases he
   ·cases he
  ·rename_i f hf
   split at he
   ·rename_i ms rs outs k vs hk hvs
    have hfv : a.eval f = .func (.func k) #[] #[] := ev_VR hs hk
    obtain ⟨⟨fn, c1, c2, c3⟩, hcalls⟩ := iCall_sound hs hw he hc (evl_VR hs hvs)
    refine .inr (.inr ⟨k, (c.args.toList.map a.eval).toArray, ?_, hcalls⟩)
    have hargs : c.args.map a.eval = (c.args.toList.map a.eval).toArray := by apply Array.ext'; rw [Array.toList_map]
    simp only [execOp, ho, resolve, hf, hfv, Deferred.ofValue, Sem.run_bind, Sem.run_pure, Result.andThen_ok, invoke, callFunc, run_program, c1]
    simp only [c2, c3, hargs]
    simp
   ·rename_i ms rs outs k t x vs hk hvs
    obtain ⟨ad, es, hfv, hs1, hcell, hrep⟩ := ev_VR hs hk
    have hvr : All2 (VR g st.mem (cx.safe g st.mem w) w) (vs ++ [.one (.ip t x 0)]) (c.args.toList.map a.eval ++ [.pointer (some ad)]) :=
     All2.append (evl_VR hs hvs) (one_ip ⟨ad, es, hfv, hs1, hcell, hrep⟩ hfv)
    obtain ⟨⟨fn, c1, c2, c3⟩, hcalls⟩ := iCall_sound hs hw he hc hvr
    refine .inr (.inr ⟨k, (c.args.toList.map a.eval ++ [Value.pointer (some ad)]).toArray, ?_, hcalls⟩)
    have hargs : c.args.map a.eval ++ #[Value.pointer (some ad)] = (c.args.toList.map a.eval ++ [Value.pointer (some ad)]).toArray := args_app a.eval c.args _
    simp only [execOp, ho, resolve, hf, hfv, Deferred.ofValue, Sem.run_bind, Sem.run_pure, Result.andThen_ok, invoke, callFunc, run_program, c1]
    simp only [c2, c3, Array.empty_append, hargs]
    simp
   ·cases he
  ·cases he
 ·cases he

end
end Go.Ide


/-
 Regions in their order; pieces of code.
-/
namespace Go.Ide

structure OH where
 tv : Option Bool
 h : Hint

def dOK (N : Nat) : Option Tmp → Bool
 | some t => Nat.blt t N
 | none => true

def St.app (st : St) (d : Option Tmp) (e : Eff) : St := (st.setMem (e.upd ++ e.new ++ st.mem) (st.nx + e.new.length)).put d e.val

def gslot (all : List Oper) (j : Nat) : Option Tmp := (all[j]?).bind (·.dst)

def freshB (m : Mem) : Mem → Bool
 | [] => true
 | p :: l => (match lk p.1 m with
  | some _ => false
  | none => true) && freshB m l

theorem freshB_spec {m : Mem} : ∀ {l : Mem}, freshB m l = true → Fresh m l
 | [], _, p, hp => by simp at hp
 | q :: l, h, p, hp => by
  simp only [freshB, Bool.and_eq_true] at h
  rcases List.mem_cons.1 hp with e | hp
  ·subst e
   cases hx : lk p.1 m with
   | none => rfl
   | some c => rw [hx] at h; cases h.1
  ·exact freshB_spec h.2 p hp

def igop (P : Program) (all : List Oper) (o : Oper) (r : OH) (fr : Fr) (m : Mem) (nx : Nat) : Option (Eff × List Prop) :=
 match o.guard with
 | none => (match iop P fr m nx r.h o with
  | some e => some (e, e.cond)
  | none => none)
 | some (j, want) => (match r.tv, (gslot all j).bind (fun t => lk t fr) with
  | some tv, some (.one (.dat .bool b)) => bif tv == want then
    (match iop P fr m nx r.h o with
    | some e => some (e, (b = tv) :: e.cond)
    | none => none) else some (⟨.und, [], [], []⟩, [b = tv])
  | none, some .und => some (⟨.und, [], [], []⟩, [])
  | _, _ => none)

def istep (P : Program) (N : Nat) (all : List Oper) (o : Oper) (r : OH) (st : St) : Option (St × List Prop) :=
 match igop P all o r st.fr st.mem st.nx with
 | some (e, cs) => bif dOK N o.dst && freshB st.mem e.new then some (st.app o.dst e, cs) else none
 | none => none

def ireg (P : Program) (N : Nat) (all : List Oper) : List Oper → List OH → St → Option (St × List Prop)
 | [], _, st => some (st, [])
 | o :: os, r :: rs, st => (match istep P N all o r st with
  | some (st1, c1) => (match ireg P N all os rs st1 with
   | some (st2, c2) => some (st2, c1 ++ c2)
   | none => none)
  | none => none)
 | _ :: _, [], _ => none

section
variable {cx : Cx} {g : GM} {st : St} {a : Act} {w : World}

theorem dOK_spec {N : Nat} {d : Option Tmp} (h : dOK N d = true) : ∀ t, d = some t → t < N := by
 intro t e
 subst e
 exact Nat.lt_of_succ_le (by simpa [dOK, Nat.blt] using h)

theorem Did.sim {e : Eff} {val : Value} {w' : World} (h : Did cx st a e val w') {d : Option Tmp} (hd : ∀ t, d = some t → t < cx.N) : ∃ g', Sim cx g' (st.app d e) (a.put d val) w' := by
 obtain ⟨g', h1, h2⟩ := h
 exact ⟨g', h1.put h2 d hd⟩

theorem guard_val {all : List Oper} {j : Nat} {b : Bool} (h : Sim cx g st a w) (hg : (gslot all j).bind (fun t => lk t st.fr) = some (.one (.dat .bool b))) : yielded all.toArray a.tmps j = some b := by
 unfold gslot at hg
 unfold yielded
 cases ho : all[j]? with
 | none => simp [ho] at hg
 | some o =>
  rw [ho] at hg
  simp only [Option.bind_some] at hg
  cases hd : o.dst with
  | none => simp [hd] at hg
  | some t =>
   rw [hd] at hg
   simp only [Option.bind_some] at hg
   have hv := h.fr t _ hg
   have hb : a.tmps.getD t undef = .bool b := dat_bool (g := g) (m := st.mem) (S := cx.safe g st.mem w) (w := w) hv
   have hlt : t < a.tmps.size := by
    rcases Nat.lt_or_ge t a.tmps.size with hlt | hge
    ·exact hlt
    ·rw [Array.getD_eq_getD_getElem?, Array.getElem?_eq_none hge] at hb; cases hb
   simp only [List.getElem?_toArray, ho, Option.bind_some, hd]
   rw [Array.getD_eq_getD_getElem?, Array.getElem?_eq_getElem hlt] at hb
   rw [Array.getElem?_eq_getElem hlt]
   simp only [Option.getD_some] at hb
   rw [hb]

theorem guard_und {all : List Oper} {j : Nat} (h : Sim cx g st a w) (hg : (gslot all j).bind (fun t => lk t st.fr) = some .und) : yielded all.toArray a.tmps j = none := by
 unfold gslot at hg
 unfold yielded
 cases ho : all[j]? with
 | none => simp [ho] at hg
 | some o =>
  rw [ho] at hg
  simp only [Option.bind_some] at hg
  cases hd : o.dst with
  | none => simp [hd] at hg
  | some t =>
   rw [hd] at hg
   simp only [Option.bind_some] at hg
   have hv : a.tmps.getD t undef = undef := h.fr t _ hg
   simp only [List.getElem?_toArray, ho, Option.bind_some, hd]
   rcases Nat.lt_or_ge t a.tmps.size with hlt | hge
   ·rw [Array.getD_eq_getD_getElem?, Array.getElem?_eq_getElem hlt] at hv
    rw [Array.getElem?_eq_getElem hlt]
    simp only [Option.getD_some] at hv
    rw [hv]
    rfl
   ·rw [Array.getElem?_eq_none hge]

theorem igop_sound {all : List Oper} {o : Oper} {r : OH} {e : Eff} {cs : List Prop} {Q : Exit → Act → World → Prop} {K : Act → World → Prop} (h : Sim cx g st a w) (he : igop cx.P all o r st.fr st.mem st.nx = some (e, cs)) (hw : Fresh st.mem e.new) (hd : dOK cx.N o.dst = true) (hc : AllP cs)
  (hk : ∀ g' a' w', Sim cx g' (st.app o.dst e) a' w' → K a' w') : if Region.wanted o (yielded all.toArray a.tmps) then o.wp cx.P a w K Q else K (a.put o.dst undef) w := by
 have hd := dOK_spec hd
 unfold igop at he
 split at he
 ·rename_i hg
  split at he
  ·rename_i e' hi
   injection he with he
   injection he with e1 e2
   subst e1
   subst e2
   simp only [Region.wanted, hg, if_true]
   refine (iop_sound h hw hi hc).wp fun val w' hdid => ?_
   obtain ⟨g', hs⟩ := hdid.sim hd
   exact hk g' _ _ hs
  ·cases he
 ·rename_i j want hg
  split at he
  ·rename_i tv b htv hb
   have hy := guard_val h hb
   cases hcond : (tv == want) with
   | true =>
    rw [hcond] at he
    simp only [cond_true] at he
    split at he
    ·rename_i e' hi
     injection he with he
     injection he with e1 e2
     subst e1
     subst e2
     have hbt : b = tv := hc.1
     have hwt : Region.wanted o (yielded all.toArray a.tmps) = true := by
      simp only [Region.wanted, hg, hy, hbt]
      simpa using hcond
     rw [if_pos hwt]
     refine (iop_sound h hw hi hc.2).wp fun val w' hdid => ?_
     obtain ⟨g', hs⟩ := hdid.sim hd
     exact hk g' _ _ hs
    ·cases he
   | false =>
    rw [hcond] at he
    simp only [cond_false] at he
    injection he with he
    injection he with e1 e2
    subst e1
    subst e2
    have hbt : b = tv := hc.1
    have hwt : ¬ Region.wanted o (yielded all.toArray a.tmps) = true := by
     simp only [Region.wanted, hg, hy, hbt]
     simpa using hcond
    rw [if_neg hwt]
    exact hk g _ _ (h.put (v := .und) rfl o.dst hd)
  ·rename_i htv hb
   injection he with he
   injection he with e1 e2
   subst e1
   subst e2
   have hwt : ¬ Region.wanted o (yielded all.toArray a.tmps) = true := by
    simp [Region.wanted, hg, guard_und h hb]
   rw [if_neg hwt]
   exact hk g _ _ (h.put (v := .und) rfl o.dst hd)
  ·cases he

theorem istep_sound {all : List Oper} {o : Oper} {r : OH} {st' : St} {cs : List Prop} {Q : Exit → Act → World → Prop} {K : Act → World → Prop} (h : Sim cx g st a w) (he : istep cx.P cx.N all o r st = some (st', cs)) (hc : AllP cs)
  (hk : ∀ g' a' w', Sim cx g' st' a' w' → K a' w') : if Region.wanted o (yielded all.toArray a.tmps) then o.wp cx.P a w K Q else K (a.put o.dst undef) w := by
 unfold istep at he
 split at he
 ·rename_i e cs' hi
  cases hd : (dOK cx.N o.dst && freshB st.mem e.new) with
  | false => rw [hd] at he; cases he
  | true =>
   rw [hd] at he
   simp only [cond_true] at he
   simp only [Bool.and_eq_true] at hd
   injection he with he
   injection he with e1 e2
   subst e1
   subst e2
   exact igop_sound h hi (freshB_spec hd.2) hd.1 hc hk
 ·cases he

theorem ireg_sound {all : List Oper} {Q : Exit → Act → World → Prop} : ∀ {os : List Oper} {rs : List OH} {st st' : St} {cs : List Prop} {g : GM} {a : Act} {w : World},
  Sim cx g st a w → ireg cx.P cx.N all os rs st = some (st', cs) → AllP cs → (∀ g' a' w', Sim cx g' st' a' w' → Q .normal a' w') → wpList cx.P all.toArray Q os a w
 | [], rs, st, st', cs, g, a, w, h, he, hc, hk => by
  have he : some (st, []) = some (st', cs) := by cases rs <;> exact he
  injection he with he
  injection he with e1 e2
  subst e1
  exact hk g a w h
 | o :: os, [], st, st', cs, g, a, w, h, he, hc, hk => by cases he
 | o :: os, r :: rs, st, st', cs, g, a, w, h, he, hc, hk => by
  simp only [ireg] at he
  split at he
  ·rename_i st1 c1 h1
   split at he
   ·rename_i st2 c2 h2
    injection he with he
    injection he with e1 e2
    subst e1
    subst e2
    obtain ⟨hc1, hc2⟩ := hc.append
    refine wpList_step fun K hK => ?_
    exact istep_sound h h1 hc1 fun g' a' w' hs => hK a' w' (ireg_sound hs h2 hc2 hk)
   ·cases he
  ·cases he

def HT (cx : Cx) (st : St) (c : Code) (Q : Exit → St → Prop) : Prop :=
 ∀ g a w, Sim cx g st a w → c.wp cx.P (fun e a' w' => ∃ st' g', Q e st' ∧ Sim cx g' st' a' w') a w

variable {Q Q' : Exit → St → Prop} {c x y : Code}

theorem HT.mono (h : HT cx st c Q) (hq : ∀ e s, Q e s → Q' e s) : HT cx st c Q' :=
 fun g a w hs => wp_mono (h g a w hs) fun e _ _ ⟨s, g', h1, h2⟩ => ⟨s, g', hq e s h1, h2⟩

theorem HT.region {id : Nat} {ops : List Oper} {rs : List OH} {st' : St} {cs : List Prop} (he : ireg cx.P cx.N ops ops rs st = some (st', cs)) (hc : AllP cs) (hq : Q .normal st') : HT cx st (.region id ops.toArray false) Q :=
 fun g a w hs => wp_region_lit (ireg_sound hs he hc fun g' _ _ hs' => ⟨st', g', hq, hs'⟩)

theorem HT.skip (hq : Q .normal st) : HT cx st .skip Q := fun g _ _ hs => wp_skip ⟨st, g, hq, hs⟩
theorem HT.exit {id : Nat} (hq : Q (.exit id) st) : HT cx st (.exit id) Q := fun g _ _ hs => wp_exit ⟨st, g, hq, hs⟩
theorem HT.ret (hq : Q .ret st) : HT cx st .ret Q := fun g _ _ hs => wp_ret ⟨st, g, hq, hs⟩

def thenQ (cx : Cx) (y : Code) (Q : Exit → St → Prop) : Exit → St → Prop
 | .normal, s => HT cx s y Q
 | e, s => Q e s

theorem HT.seq (h : HT cx st x (thenQ cx y Q)) : HT cx st (.seq x y) Q := fun g a w hs => by
 refine wp_seq (wp_mono (h g a w hs) fun e a' w' ⟨s, g', h1, h2⟩ => ?_)
 cases e with
 | normal => exact h1 g' a' w' h2
 | _ => exact ⟨s, g', h1, h2⟩

theorem HT.cond {o : Operand} {b : Bool} (he : ev st.fr o = some (.one (.dat .bool b))) (h1 : b = true → HT cx st x Q) (h2 : b = false → HT cx st y Q) : HT cx st (.cond o x y) Q := fun g a w hs =>
 wp_cond_split (dat_bool (g := g) (m := st.mem) (S := cx.safe g st.mem w) (w := w) (ev_VR hs he)) (fun e => h1 e g a w hs) (fun e => h2 e g a w hs)

def blockQ (id : Nat) (Q : Exit → St → Prop) : Exit → St → Prop
 | .exit id', s => if id' = id then Q .normal s else Q (.exit id') s
 | e, s => Q e s

theorem HT.block {id : Nat} (h : HT cx st c (blockQ id Q)) : HT cx st (.block id c) Q := fun g a w hs => by
 refine wp_block (wp_mono (h g a w hs) fun e a' w' ⟨s, g', h1, h2⟩ => ?_)
 cases e with
 | exit id' =>
  simp only [Exit.inBlock, blockQ] at h1 ⊢
  split
  ·rename_i e; rw [if_pos e] at h1; exact ⟨s, g', h1, h2⟩
  ·rename_i e; rw [if_neg e] at h1; exact ⟨s, g', h1, h2⟩
 | _ => exact ⟨s, g', h1, h2⟩

def loopQ (J : St → Prop) (Q : Exit → St → Prop) : Exit → St → Prop
 | .normal, s => J s
 | e, s => Q e s

theorem HT.loop {α : Type} {I : Nat → α → Prop} {S : α → St} {n : Nat} {s : α} (h0 : I n s) (hz : ∀ s, ¬ I 0 s)
  (round : ∀ n s, I (n + 1) s → HT cx (S s) c (loopQ (fun st' => ∃ s', st' = S s' ∧ I n s') Q)) : HT cx (S s) (.loop c) Q := fun g a w hs => by
 let J : Nat → Act → World → Prop := fun n a w => ∃ s g, I n s ∧ Sim cx g (S s) a w
 have hex : ∀ a w, (∃ n, J n a w) → ∃ n, J n a w ∧ ∀ k, J k a w → n ≤ k := by
  intro a w ⟨n, hn⟩
  induction n using Nat.strongRecOn with
  | _ n ih =>
   by_cases h : ∃ k, k < n ∧ J k a w
   ·obtain ⟨k, hk, hj⟩ := h; exact ih k hk hj
   ·exact ⟨n, hn, fun k hk => Nat.le_of_not_lt fun hlt => h ⟨k, hlt, hk⟩⟩
 let μ : Act → World → Nat := fun a w => @dite Nat (∃ n, J n a w) (Classical.propDecidable _) (fun h => Classical.choose (hex a w h)) (fun _ => 0)
 have hμ : ∀ a w n, J n a w → J (μ a w) a w ∧ μ a w ≤ n := by
  intro a w n hn
  have hx : ∃ n, J n a w := ⟨n, hn⟩
  have e : μ a w = Classical.choose (hex a w hx) := dif_pos hx
  have := Classical.choose_spec (hex a w hx)
  rw [e]
  exact ⟨this.1, this.2 n hn⟩
 refine wp_loop (fun a w => ∃ n, J n a w) μ ⟨n, s, g, h0, hs⟩ fun a w ⟨n, hn⟩ => ?_
 obtain ⟨⟨s, g, hI, hs⟩, _⟩ := hμ a w n hn
 cases hm : μ a w with
 | zero => rw [hm] at hI; exact absurd hI (hz s)
 | succ k =>
  rw [hm] at hI
  refine wp_mono (round k s hI g a w hs) fun e a' w' ⟨st', g', h1, h2⟩ => ?_
  cases e with
  | normal =>
   obtain ⟨s', e, hI'⟩ := h1
   subst e
   have := hμ a' w' k ⟨s', g', hI', h2⟩
   exact ⟨⟨k, s', g', hI', h2⟩, by omega⟩
  | _ => exact ⟨st', g', h1, h2⟩

end
end Go.Ide


/-
 Chunks under other numbers.
-/
namespace Go.Ide

theorem lk_map_snd {ch : List (Nat × Nat)} : ∀ {k k' : Nat}, lk k ch = some k' → k' ∈ ch.map Prod.snd := fun h => List.mem_map.2 ⟨_, lk_mem h, rfl⟩

def inv (ch : List (Nat × Nat)) : List (Nat × Nat) := ch.map fun p => (p.2, p.1)

theorem lk_inv : ∀ {ch : List (Nat × Nat)} {k k' : Nat}, (ch.map Prod.fst).Nodup → (ch.map Prod.snd).Nodup → (lk k ch = some k' ↔ lk k' (inv ch) = some k)
 | [], k, k', _, _ => by simp [inv, lk_nil]
 | (a, b) :: ch, k, k', h1, h2 => by
  simp only [List.map_cons, List.nodup_cons] at h1 h2
  simp only [inv, List.map_cons]
  rw [lk_cons, lk_cons]
  have ih := lk_inv (ch := ch) (k := k) (k' := k') h1.2 h2.2
  by_cases hk : k = a
  ·subst hk
   rw [if_pos rfl]
   by_cases hk' : k' = b
   ·subst hk'; simp
   ·rw [if_neg hk']
    constructor
    ·intro e; injection e with e; exact absurd e.symm hk'
    ·intro e
     have := ih.2 e
     exact absurd (List.mem_map.2 ⟨_, lk_mem this, rfl⟩) h1.1
  ·rw [if_neg hk]
   by_cases hk' : k' = b
   ·subst hk'
    rw [if_pos rfl]
    constructor
    ·intro e
     exact absurd (lk_map_snd e) h2.1
    ·intro e; injection e with e; exact absurd e.symm hk
   ·rw [if_neg hk']; exact ih

end Go.Ide
