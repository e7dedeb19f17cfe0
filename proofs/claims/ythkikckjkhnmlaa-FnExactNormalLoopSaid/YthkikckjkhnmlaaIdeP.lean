/-
  Calls: results as new chunks; the whole.
-/
import Derived.Test.YthkikckjkhnmlaaIdeO
namespace Go.Ide

theorem lk_keysFrom : ∀ (l : List Chunk) (n k : Nat), lk k (keysFrom n l) = if n ≤ k then l[k - n]? else none
  | [], n, k => by simp [keysFrom, lk_nil]
  | c :: r, n, k => by
    simp only [keysFrom]
    rw [lk_cons, lk_keysFrom r (n + 1) k]
    by_cases h : k = n
    · subst h; simp
    · rw [if_neg h]
      by_cases hle : n ≤ k
      · rw [if_pos hle, if_pos (by omega), show k - n = (k - (n + 1)) + 1 from by omega]
        simp
      · rw [if_neg hle, if_neg (by omega)]

theorem keysFrom_length : ∀ (l : List Chunk) (n : Nat), (keysFrom n l).length = l.length
  | [], _ => rfl
  | _ :: r, n => by simp [keysFrom, keysFrom_length r (n + 1)]

/-- New chunks: where each lies. -/
structure Laid (g' : GM) (m' : Mem) (S' : Nat → Prop) (w : World) (n : Nat) (chs : List Chunk) (asg : List (Option Nat)) (F : List Nat) : Prop where
  len : asg.length = chs.length
  blocks : asg.filterMap id = F
  chunk : ∀ (j : Nat) (ch : Chunk), chs[j]? = some ch → ch ≠ .gone ∧ ∃ o, asg[j]? = some o ∧ ChR g' m' S' w o ch

theorem Laid.app {g' : GM} {m' : Mem} {S' : Nat → Prop} {w : World} {n n' : Nat} {c1 c2 : List Chunk} {a1 a2 : List (Option Nat)} {F1 F2 : List Nat} (h1 : Laid g' m' S' w n c1 a1 F1) (h2 : Laid g' m' S' w n' c2 a2 F2) :
    Laid g' m' S' w n (c1 ++ c2) (a1 ++ a2) (F1 ++ F2) := by
  refine ⟨by simp [h1.len, h2.len], by simp [List.filterMap_append, h1.blocks, h2.blocks], fun j ch hj => ?_⟩
  by_cases hlt : j < c1.length
  · rw [List.getElem?_append_left hlt] at hj
    rw [List.getElem?_append_left (by rw [h1.len]; exact hlt)]
    exact h1.chunk j ch hj
  · rw [List.getElem?_append_right (by omega)] at hj
    rw [List.getElem?_append_right (by rw [h1.len]; omega), h1.len]
    exact h2.chunk _ ch hj

section
variable {S : Nat → Prop} {w : World}

/-- 'OwnRep', slice by slice: where each lies. -/
def OwnA (S : Nat → Prop) (w : World) : (t : Ty) → List Value → t.D → List (Option Nat) → Prop
  | .pair a b, cs, x, A => ∃ c1 c2 A1 A2, cs = c1 ++ c2 ∧ A = A1 ++ A2 ∧ OwnA S w a c1 x.1 A1 ∧ OwnA S w b c2 x.2 A2
  | .st t, cs, x, A => OwnA S w t cs x A
  | .sl t, cs, xs, A => (A = [none] ∧ xs = [] ∧ ∃ a, cs = [.slice a 0 0]) ∨
      ∃ b cap arr, A = [some b] ∧ cs = [.slice (some ⟨b, 0, none⟩) (List.length xs) cap] ∧ List.length xs ≤ cap ∧ 0 < cap ∧ blk w b arr ∧ cap * t.size ≤ arr.size ∧ cap ≤ maxLen ∧ ElsR S w t xs arr
  | .int k, cs, x, A => A = [] ∧ Rep S w (.int k) cs x
  | .flt k, cs, x, A => A = [] ∧ Rep S w (.flt k) cs x
  | .bool, cs, x, A => A = [] ∧ Rep S w .bool cs x
  | .str, cs, x, A => A = [] ∧ Rep S w .str cs x

theorem OwnA.toRep : ∀ (t : Ty) {cs : List Value} {x : t.D} {A : List (Option Nat)}, OwnA S w t cs x A → OwnRep S w t cs x (A.filterMap id)
  | .int _, _, _, _, ⟨e, h⟩ => ⟨by rw [e]; rfl, h⟩
  | .flt _, _, _, _, ⟨e, h⟩ => ⟨by rw [e]; rfl, h⟩
  | .bool, _, _, _, ⟨e, h⟩ => ⟨by rw [e]; rfl, h⟩
  | .str, _, _, _, ⟨e, h⟩ => ⟨by rw [e]; rfl, h⟩
  | .pair a b, _, _, _, ⟨c1, c2, A1, A2, e1, e2, h1, h2⟩ => ⟨c1, c2, _, _, e1, by rw [e2, List.filterMap_append], OwnA.toRep a h1, OwnA.toRep b h2⟩
  | .st t, _, _, _, h => OwnA.toRep t (cs := _) h
  | .sl t, _, _, _, h => by
    rcases h with ⟨e, h1, h2⟩ | ⟨b, cap, arr, e, h⟩
    · exact .inl ⟨by rw [e]; rfl, h1, h2⟩
    · exact .inr ⟨b, cap, arr, by rw [e]; rfl, h⟩

/-- What a fresh result's cells are in the caller: for whatever memory holds the new chunks at their places. -/
theorem explF_rel : ∀ (t : Ty) {cs : List Value} {x : t.D} {F : List Nat} (n : Nat), OwnRep S w t cs x F → ∃ asg : List (Option Nat), asg.length = (explF t x n).2.length ∧ asg.filterMap id = F ∧ OwnA S w t cs x asg ∧
    ∀ (g' : GM) (m' : Mem), (∀ j ch, (explF t x n).2[j]? = some ch → lk (n + j) m' = some ch) → (∀ j o, asg[j]? = some o → g' (n + j) = o) →
      All2 (CR g' m' S w) (explF t x n).1 cs ∧ Laid g' m' S w n (explF t x n).2 asg F
  | .int _, _, _, _, n, ⟨hF, h⟩ => by
    subst hF; subst h
    exact ⟨[], rfl, rfl, ⟨rfl, rfl⟩, fun g' m' _ _ => ⟨⟨rfl, trivial⟩, rfl, rfl, fun j ch hj => by simp [explF] at hj⟩⟩
  | .flt _, _, _, _, n, ⟨hF, b, e, h⟩ => by
    subst hF; subst e
    exact ⟨[], rfl, rfl, ⟨rfl, b, rfl, h⟩, fun g' m' _ _ => ⟨⟨⟨b, rfl, h⟩, trivial⟩, rfl, rfl, fun j ch hj => by simp [explF] at hj⟩⟩
  | .bool, _, _, _, n, ⟨hF, h⟩ => by
    subst hF; subst h
    exact ⟨[], rfl, rfl, ⟨rfl, rfl⟩, fun g' m' _ _ => ⟨⟨rfl, trivial⟩, rfl, rfl, fun j ch hj => by simp [explF] at hj⟩⟩
  | .str, _, _, _, n, ⟨hF, h⟩ => by
    subst hF; subst h
    exact ⟨[], rfl, rfl, ⟨rfl, rfl⟩, fun g' m' _ _ => ⟨⟨rfl, trivial⟩, rfl, rfl, fun j ch hj => by simp [explF] at hj⟩⟩
  | .st t, _, _, _, n, h => explF_rel t (cs := _) n h
  | .pair a b, _, x, _, n, ⟨c1, c2, F1, F2, e1, e2, h1, h2⟩ => by
    subst e1; subst e2
    obtain ⟨a1, l1, b1, w1, k1⟩ := explF_rel a n h1
    obtain ⟨a2, l2, b2, w2, k2⟩ := explF_rel b (n + (explF a x.1 n).2.length) h2
    refine ⟨a1 ++ a2, by simp [explF, l1, l2], by simp [List.filterMap_append, b1, b2], ⟨c1, c2, a1, a2, rfl, rfl, w1, w2⟩, fun g' m' hm hg => ?_⟩
    obtain ⟨p1, q1⟩ := k1 g' m' (fun j ch hj => hm j ch (by
        simp only [explF]
        rw [List.getElem?_append_left (List.getElem?_eq_some_iff.1 hj).1]; exact hj)) (fun j o hj => hg j o (by
        rw [List.getElem?_append_left (List.getElem?_eq_some_iff.1 hj).1]; exact hj))
    obtain ⟨p2, q2⟩ := k2 g' m' (fun j ch hj => by
        rw [Nat.add_assoc]
        refine hm _ ch ?_
        simp only [explF]
        rw [List.getElem?_append_right (by omega)]
        simpa using hj) (fun j o hj => by
        rw [Nat.add_assoc]
        refine hg _ o ?_
        rw [List.getElem?_append_right (by omega), l1]
        simpa using hj)
    exact ⟨p1.append p2, q1.app q2⟩
  | .sl t, _, xs, _, n, h => by
    rcases h with ⟨hF, hx, a, e⟩ | ⟨b, cap, arr, hF, e, h1, h2, h3, h4, h5, h6⟩
    · subst hF; subst e; subst hx
      refine ⟨[none], rfl, rfl, .inl ⟨rfl, rfl, a, rfl⟩, fun g' m' hm hg => ?_⟩
      have hl := hm 0 _ (by simp [explF]; rfl)
      have hgn := hg 0 none rfl
      rw [Nat.add_zero] at hl hgn
      refine ⟨⟨⟨by rw [hl]; simp, rfl, fun t' xs' hl' => ?_⟩, trivial⟩, rfl, rfl, fun j ch hj => ?_⟩
      · rw [hgn]; exact ⟨a, rfl⟩
      · have : j = 0 := by
          have := (List.getElem?_eq_some_iff.1 hj).1
          simp [explF] at this; exact this
        subst this
        simp [explF] at hj
        subst hj
        exact ⟨by simp, none, rfl, rfl⟩
    · subst hF; subst e
      refine ⟨[some b], rfl, rfl, .inr ⟨b, cap, arr, rfl, rfl, h1, h2, h3, h4, h5, h6⟩, fun g' m' hm hg => ?_⟩
      have hl := hm 0 _ (by simp [explF]; rfl)
      have hgn := hg 0 (some b) rfl
      rw [Nat.add_zero] at hl hgn
      refine ⟨⟨⟨by rw [hl]; simp, rfl, fun t' xs' hl' => ?_⟩, trivial⟩, rfl, rfl, fun j ch hj => ?_⟩
      · rw [hl] at hl'
        injection hl' with hl'
        injection hl' with e1 e2
        subst e1
        have e2 := eq_of_heq e2
        subst e2
        rw [hgn]
        exact ⟨cap, arr, rfl, h1, h3, h4, h5⟩
      · have : j = 0 := by
          have := (List.getElem?_eq_some_iff.1 hj).1
          simp [explF] at this; exact this
        subst this
        simp [explF] at hj
        subst hj
        exact ⟨by simp, some b, rfl, arr, h3, h6⟩

theorem valOf_CV {g' : GM} {m' : Mem} {t : Ty} {cs : List Value} {ics : List ICell} {v : Value} (h : ValOf t cs v) (ha : All2 (CR g' m' S w) ics cs) : CV g' m' S w t.isSt ics v := by
  unfold ValOf at h
  unfold CV
  cases hst : t.isSt with
  | true => rw [hst] at h; simp at h; exact ⟨cs, h, ha⟩
  | false =>
    rw [hst] at h
    simp at h
    subst h
    cases ics with
    | nil => exact ha.elim
    | cons c r =>
      cases r with
      | nil => exact ha.1
      | cons => exact ha.2.elim

theorem explR_rel : ∀ {rs : List RV} {vs : List Value} {F : List Nat} (n : Nat), RVsR S w rs vs F → ∃ asg : List (Option Nat), asg.length = (explR rs n).2.length ∧ asg.filterMap id = F ∧
    ∀ (g' : GM) (m' : Mem), (∀ j ch, (explR rs n).2[j]? = some ch → lk (n + j) m' = some ch) → (∀ j o, asg[j]? = some o → g' (n + j) = o) →
      All2 (fun (t : Bool × List ICell) v => CV g' m' S w t.1 t.2 v) (explR rs n).1 vs ∧ Laid g' m' S w n (explR rs n).2 asg F
  | [], [], F, n, h => by
    have : F = [] := h
    subst this
    exact ⟨[], rfl, rfl, fun _ _ _ _ => ⟨trivial, rfl, rfl, fun j ch hj => by simp [explR] at hj⟩⟩
  | r :: rs, v :: vs, F, n, ⟨F1, F2, e, h1, h2⟩ => by
    subst e
    have head : ∃ asg : List (Option Nat), ∃ p : List ICell × List Chunk, p = (if r.fresh then explF r.t r.x n else (expl r.t r.x, [])) ∧ asg.length = p.2.length ∧ asg.filterMap id = F1 ∧
        ∀ (g' : GM) (m' : Mem), (∀ j ch, p.2[j]? = some ch → lk (n + j) m' = some ch) → (∀ j o, asg[j]? = some o → g' (n + j) = o) → CV g' m' S w r.t.isSt p.1 v ∧ Laid g' m' S w n p.2 asg F1 := by
      unfold RVR at h1
      split at h1
      · rename_i hf
        obtain ⟨cs, hv, ho⟩ := h1
        obtain ⟨asg, l1, b1, _, k1⟩ := explF_rel r.t n ho
        refine ⟨asg, explF r.t r.x n, by rw [if_pos hf], l1, b1, fun g' m' hm hg => ?_⟩
        obtain ⟨p1, q1⟩ := k1 g' m' hm hg
        exact ⟨valOf_CV hv p1, q1⟩
      · rename_i hf
        obtain ⟨hF, cs, hv, hr⟩ := h1
        subst hF
        refine ⟨[], (expl r.t r.x, []), by rw [if_neg hf], rfl, rfl, fun g' m' hm hg => ⟨valOf_CV hv (expl_rel r.t hr), rfl, rfl, fun j ch hj => by simp at hj⟩⟩
    obtain ⟨a1, p, hp, l1, b1, k1⟩ := head
    obtain ⟨a2, l2, b2, k2⟩ := explR_rel (n + p.2.length) h2
    have e2 : (explR (r :: rs) n).2 = p.2 ++ (explR rs (n + p.2.length)).2 := by rw [hp]; rfl
    have e1 : (explR (r :: rs) n).1 = (r.t.isSt, p.1) :: (explR rs (n + p.2.length)).1 := by rw [hp]; rfl
    refine ⟨a1 ++ a2, by rw [e2]; simp [l1, l2], by simp [List.filterMap_append, b1, b2], fun g' m' hm hg => ?_⟩
    rw [e2] at hm ⊢
    rw [e1]
    obtain ⟨p1, q1⟩ := k1 g' m' (fun j ch hj => hm j ch (by
        rw [List.getElem?_append_left (List.getElem?_eq_some_iff.1 hj).1]; exact hj)) (fun j o hj => hg j o (by
        rw [List.getElem?_append_left (List.getElem?_eq_some_iff.1 hj).1]; exact hj))
    obtain ⟨p2, q2⟩ := k2 g' m' (fun j ch hj => by
        rw [Nat.add_assoc]
        refine hm _ ch ?_
        rw [List.getElem?_append_right (by omega)]
        simpa using hj) (fun j o hj => by
        rw [Nat.add_assoc]
        refine hg _ o ?_
        rw [List.getElem?_append_right (by omega), l1]
        simpa using hj)
    exact ⟨⟨p1, p2⟩, q1.app q2⟩
  | [], _ :: _, _, _, h => h.elim
  | _ :: _, [], _, _, h => h.elim

theorem resV_VR {g' : GM} {m' : Mem} {l : List (Bool × List ICell)} {vs : List Value} {v : Value} (h : All2 (fun (t : Bool × List ICell) v => CV g' m' S w t.1 t.2 v) l vs)
    (hv : ResOf vs v) : VR g' m' S w (resV l) v := by
  match l, vs with
  | [], [] => exact ⟨[], hv, trivial⟩
  | [(true, cs)], [u] =>
    have hv : v = u := hv
    subst hv
    exact h.1
  | [(false, [c])], [u] =>
    have hv : v = u := hv
    subst hv
    exact h.1
  | [(false, [])], [u] => exact h.1.elim
  | [(false, _ :: _ :: _)], [u] => exact h.1.elim
  | (b1, c1) :: t2 :: ts, u1 :: u2 :: us =>
    have e : resV ((b1, c1) :: t2 :: ts) = .tup ((b1, c1) :: t2 :: ts) := by
      cases b1 <;> rcases c1 with _ | ⟨x, _ | ⟨y, ys⟩⟩ <;> rfl
    rw [e]
    exact ⟨u1 :: u2 :: us, hv, h⟩
  | [], _ :: _ => exact h.elim
  | [_], [] => exact h.elim
  | [_], _ :: _ :: _ => exact h.2.elim
  | _ :: _ :: _, [] => exact h.elim
  | _ :: _ :: _, [_] => exact h.2.elim

end
end Go.Ide
