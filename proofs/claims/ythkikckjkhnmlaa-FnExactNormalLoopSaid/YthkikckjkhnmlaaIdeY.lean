/-
  Regions whose order is drawn, run.
-/
import Derived.Test.YthkikckjkhnmlaaIdeX
namespace Go.Ide

section
variable {cx : Cx} {g : GM} {st : St} {a : Act} {w : World}

theorem Sim.congr {fr' : Fr} {m' : Mem} {nx' : Nat} (h : Sim cx g st a w) (hf : ∀ t v, lk t fr' = some v → lk t st.fr = some v) (hm : ∀ k, lk k m' = lk k st.mem) : Sim cx g ⟨fr', m', nx'⟩ a w := by
  have h1 : Sim cx g (st.setMem m' nx') a w := h.turn (G := []) ⟨KeepF.refl _ _, fun b hb => (by simp at hb), fun _ _ => rfl, fun k ch hk => .inl ⟨(hm k).trans hk, fun _ b _ hb => by simp at hb⟩, fun k ch hk hk' => by
    rw [hm, hk] at hk'; cases hk'⟩
  exact ⟨h1.defers, h1.size, fun t v hl => h1.fr t v (hf t v hl), h1.mem, h1.inj, h1.base, h1.keep, h1.own⟩

theorem Sim.drew (h : Sim cx g st a w) : Sim cx g st a w.drew := by
  have h1 : Sim cx g (st.setMem st.mem st.nx) a w.drew := h.turn (G := []) ⟨KeepF.drew _ _, fun b hb => (by simp at hb), fun _ _ => rfl, fun k ch hk => .inl ⟨hk, fun _ b _ hb => by simp at hb⟩, fun k ch hk hk' => by
    rw [hk] at hk'; cases hk'⟩
  exact h1

theorem lk_ne_none {α : Type} : ∀ {l : List (Nat × α)} {p : Nat × α}, p ∈ l → lk p.1 l ≠ none
  | q :: l, p, h => by
    obtain ⟨k, x⟩ := q
    rw [lk_cons]
    split
    · simp
    · rename_i hne
      rcases List.mem_cons.1 h with e | h
      · subst e; exact absurd rfl hne
      · exact lk_ne_none h

theorem lastN_congr {sel sel' : Nat → Bool} {k : Nat} : ∀ {l : List ER} {n : Nat}, (∀ (j : Nat) (d : Option Tmp) (e : Eff), l[j]? = some (d, e) → lk k e.new ≠ none → sel (n + j) = sel' (n + j)) → lastN sel k n l = lastN sel' k n l
  | [], _, _ => rfl
  | (d, e) :: r, n, h => by
    simp only [lastN]
    have ih : lastN sel k (n + 1) r = lastN sel' k (n + 1) r := lastN_congr fun j d e hj hd => by
      have := h (j + 1) d e (by simpa using hj) hd
      have e1 : n + (j + 1) = n + 1 + j := by omega
      rw [e1] at this
      exact this
    have hh : (if sel n = true then lk k e.new else none) = if sel' n = true then lk k e.new else none := by
      cases hk : lk k e.new with
      | none => simp
      | some c =>
        have h0 : sel n = sel' n := by simpa using h 0 d e rfl (by rw [hk]; simp)
        rw [h0]
    rw [ih, hh]

/-- What the first operations make, and what of it is told. -/
structure Heads (P : Program) (N : Nat) (all : List Oper) (st : St) (h : Nat) (Ds : List (List Nat)) (ers : List ER) : Prop where
  len : ers.length = h
  ok : ∀ i, i < h → ∃ o, all[i]? = some o ∧ HeadOK P N all st ers i o (Ds.getD i [])
  deps : ∀ i o, all[i]? = some o → (∀ d ∈ directs o, d < i) ∧ (∀ j ∈ Ds.getD i [], j ∈ directs o ∨ ∃ d ∈ directs o, j ∈ Ds.getD d []) ∧ (∀ j, j < i → j ∈ Ds.getD i [] ∨ (i < h ∧ conflictB all (all.getD j default) o = false))

variable {P : Program} {N : Nat} {all : List Oper} {h : Nat} {Ds : List (List Nat)} {ers : List ER}

theorem Heads.lt (H : Heads P N all st h Ds ers) : ∀ (i j : Nat) (o : Oper), all[i]? = some o → j ∈ Ds.getD i [] → j < i := by
  intro i
  induction i using Nat.strongRecOn with
  | _ i ih =>
    intro j o ho hj
    obtain ⟨h1, h2, _⟩ := H.deps i o ho
    rcases h2 j hj with hd | ⟨d, hd, hj⟩
    · exact h1 j hd
    · have hdi := h1 d hd
      have hlt : i < all.length := (List.getElem?_eq_some_iff.1 ho).1
      exact Nat.lt_trans (ih d hdi j all[d] (List.getElem?_eq_getElem (Nat.lt_trans hdi hlt)) hj) hdi

theorem Heads.er (H : Heads P N all st h Ds ers) {i : Nat} {d : Option Tmp} {e : Eff} (he : ers[i]? = some (d, e)) : i < h ∧ ∃ o, all[i]? = some o ∧ d = o.dst ∧ all.getD i default = o := by
  have hlt : i < h := by rw [← H.len]; exact (List.getElem?_eq_some_iff.1 he).1
  obtain ⟨o, ho, ⟨⟨r, nx, e', cs, h1, _⟩⟩⟩ := H.ok i hlt
  rw [he] at h1
  injection h1 with h1
  injection h1 with h1 h2
  refine ⟨hlt, o, ho, h1, ?_⟩
  rw [List.getD_eq_getElem?_getD, ho]
  rfl

/-- Each key is made once. -/
theorem Heads.uniq (H : Heads P N all st h Ds ers) {i j : Nat} {d d' : Option Tmp} {e e' : Eff} {k : Nat} (hi : ers[i]? = some (d, e)) (hj : ers[j]? = some (d', e')) (hk : lk k e.new ≠ none) (hk' : lk k e'.new ≠ none) : i = j := by
  have aux : ∀ {i j : Nat} {d d' : Option Tmp} {e e' : Eff}, ers[i]? = some (d, e) → ers[j]? = some (d', e') → lk k e.new ≠ none → lk k e'.new ≠ none → ¬ i < j := by
    intro i j d d' e e' hi hj hk hk' hlt
    obtain ⟨_, o, ho, _⟩ := H.er hj
    obtain ⟨o', _, ⟨⟨r, nx, e1, cs, h1, _, _, _, _, hf⟩⟩⟩ := H.ok j (H.er hj).1
    rw [hj] at h1
    injection h1 with h1
    injection h1 with _ h1
    subst h1
    obtain ⟨c, hc⟩ := Option.ne_none_iff_exists'.1 hk'
    have hz := hf _ (lk_mem hc)
    rw [lk_selMem, Option.or_eq_none_iff] at hz
    exact hk (lastN_none hz.1 i d e (by rw [List.getElem?_take, if_pos hlt]; exact hi) rfl)
  rcases Nat.lt_trichotomy i j with h | h | h
  · exact absurd h (aux hi hj hk hk')
  · exact h
  · exact absurd h (aux hj hi hk' hk)

theorem Heads.notold (H : Heads P N all st h Ds ers) {i : Nat} {d : Option Tmp} {e : Eff} {k : Nat} (hi : ers[i]? = some (d, e)) (hk : lk k e.new ≠ none) : lk k st.mem = none := by
  obtain ⟨o', _, ⟨⟨r, nx, e1, cs, h1, _, _, _, _, hf⟩⟩⟩ := H.ok i (H.er hi).1
  rw [hi] at h1
  injection h1 with h1
  injection h1 with _ h1
  subst h1
  obtain ⟨c, hc⟩ := Option.ne_none_iff_exists'.1 hk
  have hz := hf _ (lk_mem hc)
  rw [lk_selMem, Option.or_eq_none_iff] at hz
  exact hz.2

/-- What is told of the keys that are made. -/
theorem Heads.lastNk (H : Heads P N all st h Ds ers) {sel : Nat → Bool} {k i : Nat} {d : Option Tmp} {e : Eff} {ch : Chunk} (hi : ers[i]? = some (d, e)) (hk : lk k e.new = some ch) (hs : sel i = true) : lastN sel k 0 ers = some ch := by
  cases hx : lastN sel k 0 ers with
  | none =>
    have := lastN_none hx i d e hi (by rwa [Nat.zero_add])
    rw [hk] at this; cases this
  | some c =>
    obtain ⟨j, d', e', h1, h2, h3⟩ := lastN_some hx
    have := H.uniq hi h1 (by rw [hk]; simp) (by rw [h3]; simp)
    subst this
    rw [hi] at h1
    injection h1 with h1
    injection h1 with _ h1
    subst h1
    rw [hk] at h3
    exact h3.symm

/-- The state when those are done that are listed. -/
def headSt (st : St) (ers : List ER) (sel : Nat → Bool) (nx : Nat) : St := ⟨selFr sel 0 ers st.fr, selMem sel 0 ers st.mem, nx⟩

/-- One of the first operations can be carried out where those are done that it needs. -/
theorem Heads.step (H : Heads P N all st h Ds ers) {sel : Nat → Bool} {i : Nat} {o : Oper} (hi : i < h) (ho : all[i]? = some o) (hn : sel i = false) (hd : ∀ j ∈ Ds.getD i [], sel j = true) (hc : ∀ j, j < h → sel j = true → ∀ k ∈ Ds.getD j [], sel k = true) :
    ∃ (r : OH) (nx : Nat) (e : Eff) (cs : List Prop), igop P all o r (selFr sel 0 ers st.fr) (selMem sel 0 ers st.mem) nx = some (e, cs) ∧ AllP cs ∧ dOK N o.dst = true ∧ e.upd = [] ∧ Fresh (selMem sel 0 ers st.mem) e.new ∧
      (∀ t, lk t (selFr (fun j => sel j || Nat.beq j i) 0 ers st.fr) = lk t (match o.dst with | some t' => (t', e.val) :: selFr sel 0 ers st.fr | none => selFr sel 0 ers st.fr)) ∧
      (∀ k, lk k (selMem (fun j => sel j || Nat.beq j i) 0 ers st.mem) = lk k (e.new ++ selMem sel 0 ers st.mem)) := by
  obtain ⟨o', ho', ⟨⟨r, nx, e, cs, h1, h2, h3, h4, h5, h6⟩⟩⟩ := H.ok i hi
  rw [ho] at ho'
  injection ho' with ho'
  subst ho'
  have hnb : ∀ j, j ≠ i → Nat.beq j i = false := fun j hj => by
    cases hb : Nat.beq j i with
    | false => rfl
    | true => exact absurd (beq_of hb) hj
  have hge : ∀ j, i ≤ j → memN (0 + j) (Ds.getD i []) = false := fun j hj => by
    cases hb : memN (0 + j) (Ds.getD i []) with
    | false => rfl
    | true =>
      have := H.lt i _ o ho (memN_iff.1 hb)
      omega
  -- which of the others differ
  have hpair : ∀ j d e', ers[j]? = some (d, e') → j ≠ i → (sel j = memN j (Ds.getD i [])) ∨ ((∀ t, d = some t → t ∉ looksO all o) ∧ (∀ t, d = some t → o.dst ≠ some t)) := by
    intro j d e' hj hne
    obtain ⟨hjh, oj, hoj, hdj, hgj⟩ := H.er hj
    rcases Nat.lt_or_ge j i with hlt | hgt
    · rcases (H.deps i o ho).2.2 j hlt with hm | ⟨_, hcf⟩
      · left; rw [hd j hm, memN_iff.2 hm]
      · right
        rw [hgj] at hcf
        have := conflict_look hcf
        subst hdj
        exact ⟨this.1, this.2.1⟩
    · rcases (H.deps j oj hoj).2.2 i (by omega) with hm | ⟨_, hcf⟩
      · left
        have e1 := hge j hgt
        rw [Nat.zero_add] at e1
        rw [e1]
        cases hs : sel j with
        | false => rfl
        | true => rw [hc j hjh hs i hm] at hn; cases hn
      · right
        rw [show all.getD i default = o from by rw [List.getD_eq_getElem?_getD, ho]; rfl] at hcf
        have := conflict_look hcf
        subst hdj
        exact ⟨this.2.2, fun t ht he => this.2.1 t he ht⟩
  have hlook : ∀ t ∈ looksO all o, lk t (selFr sel 0 ers st.fr) = lk t (selFr (fun j => memN j (Ds.getD i [])) 0 (ers.take i) st.fr) := by
    intro t ht
    rw [lk_selFr, lk_selFr, lastW_take hge]
    congr 1
    refine lastW_congr fun j d e' hj hdt => ?_
    rw [Nat.zero_add]
    by_cases hji : j = i
    · subst hji
      have e1 := hge j (Nat.le_refl _)
      rw [Nat.zero_add] at e1
      rw [hn, e1]
    · rcases hpair j d e' hj hji with hp | ⟨hp, _⟩
      · exact hp
      · exact absurd ht (hp t hdt)
  have hmm : MM (selMem (fun j => memN j (Ds.getD i [])) 0 (ers.take i) st.mem) (selMem sel 0 ers st.mem) := by
    intro k ch hk
    rw [lk_selMem] at hk ⊢
    cases hx : lastN (fun j => memN j (Ds.getD i [])) k 0 (ers.take i) with
    | some c =>
      rw [hx] at hk
      have hk : c = ch := by simpa using hk
      subst hk
      obtain ⟨j, d, e', g1, g2, g3⟩ := lastN_some hx
      rw [H.lastNk (getElem_take_er g1).2 g3 (hd j (memN_iff.1 (by simpa using g2)))]
      rfl
    | none =>
      rw [hx, Option.none_or] at hk
      cases hy : lastN sel k 0 ers with
      | none => rw [Option.none_or]; exact hk
      | some c =>
        obtain ⟨j, d, e', g1, g2, g3⟩ := lastN_some hy
        rw [H.notold g1 (by rw [g3]; simp)] at hk
        cases hk
  refine ⟨r, nx, e, cs, igop_congr hlook hmm h2, h3, h4, h5, fun p hp => ?_, fun t => ?_, fun k => ?_⟩
  · have hpk : lk p.1 e.new ≠ none := lk_ne_none hp
    rw [lk_selMem, H.notold h1 hpk, Option.or_none]
    cases hx : lastN sel p.1 0 ers with
    | none => rfl
    | some c =>
      obtain ⟨j, d, e', g1, g2, g3⟩ := lastN_some hx
      have := H.uniq h1 g1 hpk (by rw [g3]; simp)
      subst this
      rw [Nat.zero_add, hn] at g2
      cases g2
  · have hsame : (∀ t', o.dst = some t' → t ≠ t') → lk t (selFr (fun j => sel j || Nat.beq j i) 0 ers st.fr) = lk t (selFr sel 0 ers st.fr) := by
      intro hne
      rw [lk_selFr, lk_selFr]
      congr 1
      refine lastW_congr fun j d e' hj hdt => ?_
      rw [Nat.zero_add]
      have hji : j ≠ i := by
        rintro rfl
        rw [h1] at hj
        injection hj with hj
        injection hj with hj _
        exact hne t (hj.trans hdt) rfl
      rw [hnb j hji, Bool.or_false]
    cases hdst : o.dst with
    | none => exact hsame fun t' ht' => by rw [hdst] at ht'; cases ht'
    | some t' =>
      simp only
      rw [lk_cons]
      by_cases htt : t = t'
      · subst htt
        rw [if_pos rfl, lk_selFr]
        rw [lastW_at (i := i) (v := e) (by rw [h1, hdst]) (by rw [Nat.zero_add]; simp) (fun j d e' hij hj hdt => by
          rw [Nat.zero_add, hnb j (by omega), Bool.or_false]
          rcases hpair j d e' hj (by omega) with hp | ⟨_, hp⟩
          · rw [hp]
            have := hge j (by omega)
            rwa [Nat.zero_add] at this
          · exact absurd hdst (hp t hdt))]
        rfl
      · rw [if_neg htt]
        exact hsame fun t'' ht'' => by rw [hdst] at ht''; injection ht'' with ht''; subst ht''; exact htt
  · rw [lk_append, lk_selMem, lk_selMem, ← Option.or_assoc]
    congr 1
    cases hk : lk k e.new with
    | some c => rw [H.lastNk h1 hk (by simp)]; rfl
    | none =>
      rw [Option.none_or]
      refine lastN_congr fun j d e' hj hkj => ?_
      rw [Nat.zero_add]
      have hji : j ≠ i := by
        rintro rfl
        rw [h1] at hj
        injection hj with hj
        injection hj with _ hj
        subst hj
        exact hkj hk
      rw [hnb j hji, Bool.or_false]

theorem wp_op {ops : Array Oper} {Q : Exit → Act → World → Prop} {K : Act → World → Prop} {i : Nat} {o : Oper} (ho : ops[i]? = some o) (h : if Region.wanted o (yielded ops a.tmps) then o.wp P a w K Q else K (a.put o.dst undef) w) : wpOp P ops Q i K a w := by
  unfold wpOp
  rw [ho]
  simp only
  by_cases hw : Region.wanted o (yielded ops a.tmps) = true
  · rw [if_pos hw] at h ⊢; exact .inl h
  · rw [if_neg hw] at h ⊢; exact h

/-- Which are listed. -/
def lsel (listed : Array Bool) (j : Nat) : Bool := listed.getD j false

theorem ready_spec {ops : List Oper} {listed : Array Bool} (hs : listed.size = ops.length) {i : Nat} (hi : i ∈ Region.ready .any ops.toArray listed) :
    ∃ o, ops[i]? = some o ∧ lsel listed i = false ∧ ∀ d ∈ directs o, lsel listed d = true := by
  obtain ⟨h0, o, ho, hall⟩ := mem_ready.1 hi
  have ho : ops[i]? = some o := by simpa using ho
  have hlt : i < listed.size := by rw [hs]; exact (List.getElem?_eq_some_iff.1 ho).1
  refine ⟨o, ho, ?_, fun d hd => ?_⟩
  · unfold lsel
    simp [Array.getD, hlt] at h0 ⊢
    exact h0
  · unfold directs at hd
    obtain ⟨e, he, rfl⟩ := List.mem_map.1 hd
    obtain ⟨he, hb⟩ := List.mem_filter.1 he
    exact hall e (by simpa using he) hb

theorem ready_nil {ops : List Oper} {listed : Array Bool} (hs : listed.size = ops.length) (hd : ∀ i o, ops[i]? = some o → ∀ d ∈ directs o, d < i) (hr : Region.ready .any ops.toArray listed = []) : ∀ i, i < ops.length → lsel listed i = true := by
  intro i
  induction i using Nat.strongRecOn with
  | _ i ih =>
    intro hi
    cases hl : lsel listed i with
    | true => rfl
    | false =>
      have : i ∈ Region.ready .any ops.toArray listed := by
        refine mem_ready.2 ⟨?_, ops[i], by simp [hi], fun e he hb => ?_⟩
        · unfold lsel at hl
          have hlt : i < listed.size := by omega
          simp [Array.getD, hlt] at hl ⊢
          exact hl
        · have hdi : e.on ∈ directs ops[i] := List.mem_map.2 ⟨e, List.mem_filter.2 ⟨by simpa using he, hb⟩, rfl⟩
          have hlt := hd i ops[i] (List.getElem?_eq_getElem hi) e.on hdi
          exact ih e.on hlt (by omega)
      rw [hr] at this
      simp at this

theorem lsel_set {listed : Array Bool} {i j : Nat} (hi : i < listed.size) : lsel (listed.setIfInBounds i true) j = (lsel listed j || Nat.beq j i) := by
  unfold lsel
  by_cases hij : j = i
  · subst hij
    have : Nat.beq j j = true := Nat.beq_refl j
    rw [this]
    simp [hi]
  · have : Nat.beq j i = false := by
      cases hb : Nat.beq j i with
      | false => rfl
      | true => exact absurd (beq_of hb) hij
    rw [this, getD_set_ne false (fun e => hij e.symm)]
    simp

/-- How many are not listed. -/
def todo (listed : Array Bool) (n : Nat) : Nat := ((List.range n).filter fun j => !lsel listed j).length

theorem todo_set {listed : Array Bool} {i n : Nat} (hi : i < listed.size) (hn : i < n) (hl : lsel listed i = false) : todo (listed.setIfInBounds i true) n + 1 ≤ todo listed n := by
  unfold todo
  have aux : ∀ l : List Nat, l.Nodup → i ∈ l → (l.filter fun j => !lsel (listed.setIfInBounds i true) j).length + 1 ≤ (l.filter fun j => !lsel listed j).length := by
    intro l
    induction l with
    | nil => intro _ h; simp at h
    | cons x l ih =>
      intro hnd hm
      simp only [List.nodup_cons] at hnd
      by_cases hx : x = i
      · subst hx
        have e1 : (!lsel (listed.setIfInBounds x true) x) = false := by rw [lsel_set hi]; simp
        have e2 : (!lsel listed x) = true := by rw [hl]; rfl
        rw [List.filter_cons_of_neg (by simp [e1]), List.filter_cons_of_pos (by simp [hl])]
        simp only [List.length_cons, Nat.add_le_add_iff_right]
        refine Nat.le_of_eq ?_
        congr 1
        refine List.filter_congr fun y hy => ?_
        rw [lsel_set hi]
        have : Nat.beq y x = false := by
          cases hb : Nat.beq y x with
          | false => rfl
          | true => have := beq_of hb; subst this; exact absurd hy hnd.1
        rw [this, Bool.or_false]
      · have hm : i ∈ l := by
          rcases List.mem_cons.1 hm with e | hm
          · exact absurd e.symm hx
          · exact hm
        have := ih hnd.2 hm
        have e : lsel (listed.setIfInBounds i true) x = lsel listed x := by
          rw [lsel_set hi]
          have : Nat.beq x i = false := by
            cases hb : Nat.beq x i with
            | false => rfl
            | true => exact absurd (beq_of hb) hx
          rw [this, Bool.or_false]
        cases hs : lsel listed x with
        | true =>
          rw [hs] at e
          rw [List.filter_cons_of_neg (by simp [e]), List.filter_cons_of_neg (by simp [hs])]
          exact this
        | false =>
          rw [hs] at e
          rw [List.filter_cons_of_pos (by simp [e]), List.filter_cons_of_pos (by simp [hs])]
          simp only [List.length_cons]
          omega
  exact aux _ List.nodup_range (List.mem_range.2 hn)

/-- The last operations, which wait for all before them. -/
theorem tails_sound {Q : Exit → Act → World → Prop} {st' : St} (hd : ∀ i o, all[i]? = some o → (∀ d ∈ directs o, d < i) ∧ (∀ j ∈ Ds.getD i [], j ∈ directs o ∨ ∃ d ∈ directs o, j ∈ Ds.getD d []) ∧ (∀ j, j < i → h ≤ i → j ∈ Ds.getD i [])) :
    ∀ (fuel : Nat) {listed : Array Bool} {i : Nat} {rs : List OH} {st : St} {cs : List Prop} {g : GM} {a : Act} {w : World}, listed.size = all.length → h ≤ i → (∀ j, j < all.length → (lsel listed j = true ↔ j < i)) → i ≤ all.length → todo listed all.length ≤ fuel →
      Sim cx g st a w → ireg cx.P cx.N all (all.drop i) rs st = some (st', cs) → AllP cs → (∀ g' a' w', Sim cx g' st' a' w' → Q .normal a' w') → wpAny cx.P .any all.toArray Q fuel listed a w := by
  intro fuel
  have hend : ∀ {listed : Array Bool} {i : Nat} {rs : List OH} {st : St} {cs : List Prop} {g : GM} {a : Act} {w : World}, (∀ j, j < all.length → (lsel listed j = true ↔ j < i)) → i ≤ all.length → (∀ j, j < all.length → lsel listed j = true) → Sim cx g st a w → ireg cx.P cx.N all (all.drop i) rs st = some (st', cs) → (∀ g' a' w', Sim cx g' st' a' w' → Q .normal a' w') → Q .normal a w := by
    intro listed i rs st cs g a w hl hi hal hs he hq
    have hdrop : all.drop i = [] := by
      rcases Nat.lt_or_ge i all.length with hlt | hge
      · have := (hl i hlt).1 (hal i hlt); omega
      · exact List.drop_eq_nil_of_le hge
    rw [hdrop] at he
    have he : some (st, []) = some (st', cs) := by cases rs <;> exact he
    injection he with he
    injection he with e1 e2
    subst e1
    exact hq _ _ _ hs
  induction fuel with
  | zero =>
    intro listed i rs st cs g a w hsz hhi hl hi hto hs he hc hq
    have hal : ∀ j, j < all.length → lsel listed j = true := fun j hj => by
      cases hx : lsel listed j with
      | true => rfl
      | false =>
        have : j ∈ (List.range all.length).filter fun j => !lsel listed j := List.mem_filter.2 ⟨List.mem_range.2 hj, by rw [hx]; rfl⟩
        have := List.length_pos_of_mem this
        unfold todo at hto
        omega
    refine ⟨?_, hend hl hi hal hs he hq⟩
    cases hr : Region.ready .any all.toArray listed with
    | nil => rfl
    | cons x xs =>
      obtain ⟨o, ho, h1, _⟩ := ready_spec hsz (i := x) (by rw [hr]; simp)
      rw [hal x (List.getElem?_eq_some_iff.1 ho).1] at h1
      cases h1
  | succ fuel ih =>
    intro listed i rs st cs g a w hsz hhi hl hi hto hs he hc hq
    refine ⟨fun hr => hend hl hi (ready_nil hsz (fun i o ho => (hd i o ho).1) hr) hs he hq, fun j hj => ?_⟩
    obtain ⟨o, ho, h1, h2⟩ := ready_spec hsz hj
    have hjl : j < all.length := (List.getElem?_eq_some_iff.1 ho).1
    have hji : j = i := by
      have hge : i ≤ j := by
        rcases Nat.lt_or_ge j i with hlt | hge
        · rw [(hl j hjl).2 hlt] at h1; cases h1
        · exact hge
      rcases Nat.lt_or_ge i j with hlt | hle
      · have hm := (hd j o ho).2.2 i hlt (by omega)
        -- everything that it waits for is listed
        have hcl : ∀ (n : Nat) (o : Oper), all[n]? = some o → (∀ d ∈ directs o, lsel listed d = true) → ∀ k ∈ Ds.getD n [], lsel listed k = true := by
          intro n
          induction n using Nat.strongRecOn with
          | _ n ihn =>
            intro o ho hdl k hk
            have hlt : n < all.length := (List.getElem?_eq_some_iff.1 ho).1
            rcases (hd n o ho).2.1 k hk with hkd | ⟨d, hkd, hkk⟩
            · exact hdl k hkd
            · have hdn := (hd n o ho).1 d hkd
              have hdlt : d < all.length := by omega
              refine ihn d hdn all[d] (List.getElem?_eq_getElem hdlt) (fun d' hd' => ?_) k hkk
              have hdi := (hl d hdlt).1 (hdl d hkd)
              have := (hd d all[d] (List.getElem?_eq_getElem hdlt)).1 d' hd'
              exact (hl d' (by omega)).2 (by omega)
        have := (hl i (by omega)).1 (hcl j o ho h2 i hm)
        omega
      · omega
    subst hji
    have hdrop : all.drop j = o :: all.drop (j + 1) := by
      rw [List.drop_eq_getElem_cons hjl]
      congr 1
      exact (List.getElem?_eq_some_iff.1 ho).2
    rw [hdrop] at he
    cases rs with
    | nil => cases he
    | cons r rs =>
      simp only [ireg] at he
      split at he
      · rename_i st1 c1 hst
        split at he
        · rename_i st2 c2 hrest
          injection he with he
          injection he with e1 e2
          subst e1
          subst e2
          obtain ⟨hc1, hc2⟩ := hc.append
          refine wp_op (by simpa using ho) (istep_sound hs hst hc1 fun g' a' w' hs' => ?_)
          refine ih (i := j + 1) (by simp [hsz]) (by omega) (fun k hk => ?_) (by omega) ?_ hs' hrest hc2 hq
          · rw [lsel_set (by omega)]
            simp only [Bool.or_eq_true]
            rw [hl k hk]
            constructor
            · rintro (hk' | hk')
              · omega
              · have := beq_of hk'; omega
            · intro hk'
              rcases Nat.lt_or_ge k j with hlt | hge
              · exact .inl hlt
              · right
                have : k = j := by omega
                subst this
                exact Nat.beq_refl _
          · have := todo_set (listed := listed) (i := j) (n := all.length) (by omega) hjl h1
            omega
        · cases he
      · cases he

theorem selFr_congr {sel sel' : Nat → Bool} (H : ∀ j, j < ers.length → sel j = sel' j) (fr : Fr) (t : Tmp) : lk t (selFr sel 0 ers fr) = lk t (selFr sel' 0 ers fr) := by
  rw [lk_selFr, lk_selFr]
  congr 1
  exact lastW_congr fun j d e hj _ => by
    rw [Nat.zero_add]
    exact H j (List.getElem?_eq_some_iff.1 hj).1

theorem selMem_congr {sel sel' : Nat → Bool} (H : ∀ j, j < ers.length → sel j = sel' j) (m : Mem) (k : Nat) : lk k (selMem sel 0 ers m) = lk k (selMem sel' 0 ers m) := by
  rw [lk_selMem, lk_selMem]
  congr 1
  exact lastN_congr fun j d e hj _ => by
    rw [Nat.zero_add]
    exact H j (List.getElem?_eq_some_iff.1 hj).1

/-- The first operations, in any order. -/
theorem heads_sound {Q : Exit → Act → World → Prop} {st st' : St} {nx0 : Nat} {rs : List OH} {cs : List Prop} (H : Heads cx.P cx.N all st h Ds ers) (hh : h ≤ all.length) (he : ireg cx.P cx.N all (all.drop h) rs (headSt st ers (fun _ => true) nx0) = some (st', cs)) (hc : AllP cs) (hq : ∀ g' a' w', Sim cx g' st' a' w' → Q .normal a' w') :
    ∀ (fuel : Nat) {listed : Array Bool} {nx : Nat} {g : GM} {a : Act} {w : World}, listed.size = all.length → (∀ j, lsel listed j = true → j < h) → (∀ j, j < h → lsel listed j = true → ∀ k ∈ Ds.getD j [], lsel listed k = true) → todo listed all.length ≤ fuel →
      Sim cx g (headSt st ers (lsel listed) nx) a w → wpAny cx.P .any all.toArray Q fuel listed a w := by
  intro fuel
  have hend : ∀ (fuel : Nat) {listed : Array Bool} {nx : Nat} {g : GM} {a : Act} {w : World}, listed.size = all.length → (∀ j, lsel listed j = true → j < h) → todo listed all.length ≤ fuel → (∀ j, j < h → lsel listed j = true) → Sim cx g (headSt st ers (lsel listed) nx) a w → wpAny cx.P .any all.toArray Q fuel listed a w := by
    intro fuel listed nx g a w hsz hl hto hal hs
    have hs' : Sim cx g (headSt st ers (fun _ => true) nx0) a w := hs.congr (fun t v hv => by
      rw [← hv]
      exact selFr_congr (sel' := fun _ => true) (fun j hj => hal j (by rw [← H.len]; exact hj)) _ _) (fun k => (selMem_congr (sel' := fun _ => true) (fun j hj => hal j (by rw [← H.len]; exact hj)) _ _).symm)
    exact tails_sound (h := h) (Ds := Ds) (fun i o ho => ⟨(H.deps i o ho).1, (H.deps i o ho).2.1, fun j hj hi => ((H.deps i o ho).2.2 j hj).resolve_right fun x => by omega⟩) fuel hsz (Nat.le_refl h) (fun j hj => ⟨hl j, hal j⟩) hh hto hs' he hc hq
  induction fuel with
  | zero =>
    intro listed nx g a w hsz hl hcl hto hs
    refine hend 0 hsz hl hto (fun j hj => ?_) hs
    cases hx : lsel listed j with
    | true => rfl
    | false =>
      have : j ∈ (List.range all.length).filter fun j => !lsel listed j := List.mem_filter.2 ⟨List.mem_range.2 (by omega), by rw [hx]; rfl⟩
      have := List.length_pos_of_mem this
      unfold todo at hto
      omega
  | succ fuel ih =>
    intro listed nx g a w hsz hl hcl hto hs
    by_cases hal : ∀ j, j < h → lsel listed j = true
    · exact hend (fuel + 1) hsz hl hto hal hs
    refine ⟨fun hr => absurd (fun j hj => ready_nil hsz (fun i o ho => (H.deps i o ho).1) hr j (by omega)) hal, fun i hi => ?_⟩
    obtain ⟨o, ho, h1, h2⟩ := ready_spec hsz hi
    have hil : i < all.length := (List.getElem?_eq_some_iff.1 ho).1
    have hdi : ∀ j ∈ Ds.getD i [], lsel listed j = true := fun j hj => by
      rcases (H.deps i o ho).2.1 j hj with hd | ⟨d, hd, hj⟩
      · exact h2 j hd
      · exact hcl d (hl d (h2 d hd)) (h2 d hd) j hj
    have hih : i < h := by
      rcases Nat.lt_or_ge i h with hlt | hge
      · exact hlt
      · exact absurd (fun j hj => hdi j (((H.deps i o ho).2.2 j (by omega)).resolve_right fun x => by omega)) hal
    obtain ⟨r, nx', e, cs', g1, g2, g3, g4, g5, g6, g7⟩ := H.step hih ho h1 hdi hcl
    have hsel : lsel (listed.setIfInBounds i true) = fun j => lsel listed j || Nat.beq j i := funext fun j => lsel_set (by omega)
    have hs1 : Sim cx g ⟨selFr (lsel listed) 0 ers st.fr, selMem (lsel listed) 0 ers st.mem, nx'⟩ a w := hs.congr (fun _ _ hv => hv) (fun _ => rfl)
    refine wp_op (by simpa using ho) (igop_sound hs1 g1 g5 g3 g2 fun g' a' w' hs' => ?_)
    refine ih (nx := 0) (by simp [hsz]) (fun j hj => ?_) (fun j hj hlj k hk => ?_) ?_ (hs'.congr (fun t v hv => ?_) fun k => ?_)
    · rw [hsel] at hj
      simp only [Bool.or_eq_true] at hj
      rcases hj with hj | hj
      · exact hl j hj
      · rw [beq_of hj]; exact hih
    · rw [hsel] at hlj ⊢
      simp only [Bool.or_eq_true] at hlj ⊢
      rcases hlj with hlj | hlj
      · exact .inl (hcl j hj hlj k hk)
      · have := beq_of hlj
        subst this
        exact .inl (hdi k hk)
    · have := todo_set (listed := listed) (i := i) (n := all.length) (by omega) hil h1
      omega
    · change lk t (selFr (lsel (listed.setIfInBounds i true)) 0 ers st.fr) = some v at hv
      rw [hsel, g6] at hv
      cases hdst : o.dst with
      | none => rw [hdst] at hv; exact hv
      | some t' => rw [hdst] at hv; exact hv
    · change lk k (selMem (lsel (listed.setIfInBounds i true)) 0 ers st.mem) = _
      rw [hsel, g7]
      unfold St.app
      rw [g4]
      cases o.dst <;> rfl

/-- A region whose order is drawn. -/
theorem HT.draw {Q : Exit → St → Prop} {id h : Nat} {ops : List Oper} {hrs : List HR} {tds : List (List Nat)} {rs : List OH} {ers : List ER} {st st' : St} {cs cs' : List Prop} {nx : Nat} (hm : cx.P.follows .mixedOrders = true)
    (hn : (hrs.length == h && Nat.ble h ops.length) = true) (hok : okFrom ops (hrs.map HR.D ++ tds) h 0 ops = true) (hh : ihead cx.P cx.N ops st (ops.take h) hrs [] st.nx = some (ers, cs, nx))
    (he : ireg cx.P cx.N ops (ops.drop h) rs (headSt st ers (fun _ => true) nx) = some (st', cs')) (hc : AllP cs) (hc' : AllP cs') (hq : Q .normal st') : HT cx st (.region id ops.toArray true) Q := by
  intro g a w hs
  simp only [Bool.and_eq_true, beq_iff_eq] at hn
  obtain ⟨hn, hl⟩ := hn
  have hl : h ≤ ops.length := Nat.le_of_ble_eq_true hl
  obtain ⟨⟨l, e1, e2⟩, hsp⟩ := ihead_spec hh hc
  have hlen : ers.length = h := by rw [e1]; simp [e2, hl]
  refine wp_region_any hm ?_
  have hDs : ∀ i, i < h → (hrs.map HR.D ++ tds).getD i [] = (hrs.map HR.D).getD i [] := fun i hi => by
    rw [List.getD_eq_getElem?_getD, List.getD_eq_getElem?_getD, List.getElem?_append_left (by simp [hn, hi])]
  have H : Heads cx.P cx.N ops st h (hrs.map HR.D ++ tds) ers := by
    refine ⟨hlen, fun i hi => ?_, fun i o ho => ?_⟩
    · have ho : ops[i]? = some ops[i] := List.getElem?_eq_getElem (by omega)
      refine ⟨ops[i], ho, ?_⟩
      have := hsp i ops[i] (by rw [List.getElem?_take, if_pos hi]; exact ho)
      rw [hDs i hi]
      simpa using this
    · have := okFrom_spec hok i o ho
      simpa using this
  have hz : ∀ j, lsel (Array.replicate ops.length false) j = false := fun j => by
    unfold lsel
    rw [Array.getD_eq_getD_getElem?]
    by_cases hj : j < ops.length
    · simp [hj]
    · rw [Array.getElem?_eq_none (by simpa using Nat.le_of_not_lt hj)]; rfl
  have hto : todo (Array.replicate ops.length false) ops.length ≤ ops.length := by
    unfold todo
    exact Nat.le_trans (List.length_filter_le _ _) (by simp)
  have hs0 : Sim cx g (headSt st ers (lsel (Array.replicate ops.length false)) 0) a w.drew := by
    have hz' : lsel (Array.replicate ops.length false) = fun _ => false := funext hz
    refine hs.drew.congr (fun t v hv => ?_) fun k => ?_
    · rw [hz'] at hv
      change lk t (selFr (fun _ => false) 0 ers st.fr) = some v at hv
      rw [lk_selFr] at hv
      have : lastW (fun _ => false) t 0 ers = none := by
        have := lastW_take (sel := fun _ => false) (t := t) (l := ers) (n := 0) (i := 0) (fun _ _ => rfl)
        simpa [lastW] using this.symm
      rw [this] at hv
      exact hv
    · rw [hz']
      change lk k (selMem (fun _ => false) 0 ers st.mem) = _
      rw [lk_selMem]
      cases hx : lastN (fun _ => false) k 0 ers with
      | none => rfl
      | some c => obtain ⟨_, _, _, _, h2, _⟩ := lastN_some hx; cases h2
  have := heads_sound (Q := fun e a' w' => ∃ st' g', Q e st' ∧ Sim cx g' st' a' w') (nx0 := nx) H hl he hc' (fun g' a' w' hs' => ⟨st', g', hq, hs'⟩) ops.length (listed := Array.replicate ops.length false) (by simp) (fun j hj => by rw [hz j] at hj; cases hj) (fun j _ hj => by rw [hz j] at hj; cases hj) hto hs0
  simpa using this

end
end Go.Ide
