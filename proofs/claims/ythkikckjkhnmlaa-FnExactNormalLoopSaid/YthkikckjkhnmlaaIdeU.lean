/-
  A state in other words: chunks under other numbers, what is no longer wanted left out; empty slices as chunks.
-/
import Derived.Test.YthkikckjkhnmlaaIdeT
namespace Go.Ide

def rnC (ch : List (Nat × Nat)) : ICell → Option ICell
  | .ptr c off => match lk c ch with
    | some c' => some (.ptr c' off)
    | none => none
  | .elp c i sz => match lk c ch with
    | some c' => some (.elp c' i sz)
    | none => none
  | .all c => match lk c ch with
    | some c' => some (.all c')
    | none => none
  | .ref c off len => match lk c ch with
    | some c' => some (.ref c' off len)
    | none => none
  | c => some c

def rnCs (ch : List (Nat × Nat)) : List ICell → Option (List ICell)
  | [] => some []
  | c :: r => match rnC ch c, rnCs ch r with
    | some c', some r' => some (c' :: r')
    | _, _ => none

def rnV (ch : List (Nat × Nat)) : IVal → Option IVal
  | .one c => match rnC ch c with
    | some c' => some (.one c')
    | none => none
  | .agg cs => match rnCs ch cs with
    | some cs' => some (.agg cs')
    | none => none
  | .tup _ => none
  | .und => some .und
  | .junk => some .junk

def rnCh (ch : List (Nat × Nat)) : Chunk → Option Chunk
  | .box cs => match rnCs ch cs with
    | some cs' => some (.box cs')
    | none => none
  | .seq t xs => some (.seq t xs)
  | .gone => none

def rnFr (ch : List (Nat × Nat)) (fr : Fr) : List Nat → Option Fr
  | [] => some []
  | t :: r => match lk t fr, rnFr ch fr r with
    | some v, some l => (match rnV ch v with
      | some v' => some ((t, v') :: l)
      | none => none)
    | _, _ => none

def rnMem (ch : List (Nat × Nat)) (m : Mem) : List (Nat × Nat) → Option Mem
  | [] => some []
  | (k, k') :: r => match lk k m, rnMem ch m r with
    | some c, some l => (match rnCh ch c with
      | some c' => some ((k', c') :: l)
      | none => none)
    | _, _ => none

def St.rn (slots : List Nat) (ch : List (Nat × Nat)) (nx : Nat) (own : List Nat) (st : St) : Option St :=
  bif (nodupB (ch.map Prod.fst) && nodupB (ch.map Prod.snd)) && ((ch.all fun p => Nat.blt p.2 nx) && (own.all fun k => lk k ch == some k)) then
    (match rnFr ch st.fr slots, rnMem ch st.mem ch with
    | some fr, some m => some ⟨fr, m, nx⟩
    | _, _ => none) else none

theorem lk_map_snd {ch : List (Nat × Nat)} : ∀ {k k' : Nat}, lk k ch = some k' → k' ∈ ch.map Prod.snd := fun h => List.mem_map.2 ⟨_, lk_mem h, rfl⟩

/-- The other way round. -/
def inv (ch : List (Nat × Nat)) : List (Nat × Nat) := ch.map fun p => (p.2, p.1)

theorem lk_inv : ∀ {ch : List (Nat × Nat)} {k k' : Nat}, (ch.map Prod.fst).Nodup → (ch.map Prod.snd).Nodup → (lk k ch = some k' ↔ lk k' (inv ch) = some k)
  | [], k, k', _, _ => by simp [inv, lk_nil]
  | (a, b) :: ch, k, k', h1, h2 => by
    simp only [List.map_cons, List.nodup_cons] at h1 h2
    simp only [inv, List.map_cons]
    rw [lk_cons, lk_cons]
    have ih := lk_inv (ch := ch) (k := k) (k' := k') h1.2 h2.2
    by_cases hk : k = a
    · subst hk
      rw [if_pos rfl]
      by_cases hk' : k' = b
      · subst hk'; simp
      · rw [if_neg hk']
        constructor
        · intro e; injection e with e; exact absurd e.symm hk'
        · intro e
          have := ih.2 e
          exact absurd (List.mem_map.2 ⟨_, lk_mem this, rfl⟩) h1.1
    · rw [if_neg hk]
      by_cases hk' : k' = b
      · subst hk'
        rw [if_pos rfl]
        constructor
        · intro e
          exact absurd (lk_map_snd e) h2.1
        · intro e; injection e with e; exact absurd e.symm hk
      · rw [if_neg hk']; exact ih

theorem lk_rnFr {ch : List (Nat × Nat)} {fr : Fr} : ∀ {sl : List Nat} {fr' : Fr} {t : Nat} {v' : IVal}, rnFr ch fr sl = some fr' → lk t fr' = some v' → ∃ v, lk t fr = some v ∧ rnV ch v = some v'
  | [], fr', t, v', h, hl => by simp only [rnFr] at h; injection h with h; subst h; simp [lk_nil] at hl
  | s :: sl, fr', t, v', h, hl => by
    simp only [rnFr] at h
    split at h
    · rename_i v l hv hr
      split at h
      · rename_i v1 h1
        injection h with h
        subst h
        rw [lk_cons] at hl
        split at hl
        · rename_i e; subst e; injection hl with hl; subst hl; exact ⟨v, hv, h1⟩
        · exact lk_rnFr hr hl
      · cases h
    · cases h

theorem lk_rnMem {ch : List (Nat × Nat)} {m : Mem} : ∀ {l : List (Nat × Nat)} {m' : Mem} {k' : Nat} {c' : Chunk}, rnMem ch m l = some m' → lk k' m' = some c' → ∃ k c, (k, k') ∈ l ∧ lk k m = some c ∧ rnCh ch c = some c'
  | [], m', k', c', h, hl => by simp only [rnMem] at h; injection h with h; subst h; simp [lk_nil] at hl
  | (k, k1) :: l, m', k', c', h, hl => by
    simp only [rnMem] at h
    split at h
    · rename_i c l' hc hr
      split at h
      · rename_i c1 h1
        injection h with h
        subst h
        rw [lk_cons] at hl
        split at hl
        · rename_i e; subst e; injection hl with hl; subst hl; exact ⟨k, c, by simp, hc, h1⟩
        · obtain ⟨k2, c2, h2, h3, h4⟩ := lk_rnMem hr hl
          exact ⟨k2, c2, by simp [h2], h3, h4⟩
      · cases h
    · cases h

theorem rnMem_has {ch : List (Nat × Nat)} {m : Mem} : ∀ {l : List (Nat × Nat)} {m' : Mem} {k k' : Nat}, rnMem ch m l = some m' → (l.map Prod.snd).Nodup → (k, k') ∈ l → ∃ c c', lk k m = some c ∧ rnCh ch c = some c' ∧ lk k' m' = some c'
  | [], m', k, k', h, _, hm => by simp at hm
  | (q, q') :: l, m', k, k', h, hn, hm => by
    simp only [List.map_cons, List.nodup_cons] at hn
    simp only [rnMem] at h
    split at h
    · rename_i c l' hc hr
      split at h
      · rename_i c1 h1
        injection h with h
        subst h
        rw [lk_cons]
        rcases List.mem_cons.1 hm with e | hm
        · injection e with e1 e2
          subst e1
          subst e2
          exact ⟨c, c1, hc, h1, by rw [if_pos rfl]⟩
        · have hne : k' ≠ q' := fun e => hn.1 (by rw [← e]; exact List.mem_map.2 ⟨_, hm, rfl⟩)
          rw [if_neg hne]
          exact rnMem_has hr hn.2 hm
      · cases h
    · cases h

section
variable {cx : Cx} {g : GM} {st : St} {a : Act} {w : World}

theorem Sim.rn {slots : List Nat} {ch : List (Nat × Nat)} {nx : Nat} {own : List Nat} {st' : St} (h : Sim cx g st a w) (he : st.rn slots ch nx own = some st') (ho : cx.own.map Prod.fst = own) : ∃ g', Sim cx g' st' a w := by
  unfold St.rn at he
  cases hb : ((nodupB (ch.map Prod.fst) && nodupB (ch.map Prod.snd)) && ((ch.all fun p => Nat.blt p.2 nx) && (own.all fun k => lk k ch == some k))) with
  | false => rw [hb] at he; cases he
  | true =>
    rw [hb] at he
    simp only [cond_true] at he
    simp only [Bool.and_eq_true] at hb
    obtain ⟨⟨hn1, hn2⟩, hnx, hown⟩ := hb
    have hn1 := nodupB_spec hn1
    have hn2 := nodupB_spec hn2
    split at he
    · rename_i fr' m' hfr hmem
      injection he with he
      subst he
      let g' : GM := fun k' => (lk k' (inv ch)).bind g
      have hg' : ∀ k k', lk k ch = some k' → g' k' = g k := fun k k' hk => by
        show (lk k' (inv ch)).bind g = g k
        rw [(lk_inv hn1 hn2).1 hk]
        rfl
      have hin : ∀ k k', (k, k') ∈ ch → lk k ch = some k' := by
        intro k k' hm
        have : ∀ l : List (Nat × Nat), (l.map Prod.fst).Nodup → (k, k') ∈ l → lk k l = some k' := by
          intro l
          induction l with
          | nil => intro _ hm; simp at hm
          | cons p l ih =>
            intro hn hm
            obtain ⟨a, b⟩ := p
            simp only [List.map_cons, List.nodup_cons] at hn
            rw [lk_cons]
            rcases List.mem_cons.1 hm with e | hm
            · injection e with e1 e2; subst e1; subst e2; rw [if_pos rfl]
            · rw [if_neg (fun e => hn.1 (by rw [← e]; exact List.mem_map.2 ⟨_, hm, rfl⟩))]
              exact ih hn.2 hm
        exact this ch hn1 hm
      have hlive : ∀ k' c', lk k' m' = some c' → ∃ k c, lk k ch = some k' ∧ lk k st.mem = some c ∧ rnCh ch c = some c' ∧ c ≠ .gone ∧ g' k' = g k := fun k' c' hk => by
        obtain ⟨k, c, h1, h2, h3⟩ := lk_rnMem hmem hk
        have h4 := hin k k' h1
        exact ⟨k, c, h4, h2, h3, (by rintro rfl; cases h3), hg' k k' h4⟩
      have hsafe : ∀ b, cx.safe g st.mem w b → cx.safe g' m' w b := fun b ⟨h1, h2, h3⟩ => by
        refine ⟨h1, h2, ?_⟩
        rintro ⟨k', c', hk, _, hgk⟩
        obtain ⟨k, c, _, q2, _, q4, q5⟩ := hlive k' c' hk
        exact h3 ⟨k, c, q2, q4, by rw [← q5]; exact hgk⟩
      have hhas : ∀ k k', lk k ch = some k' → ∃ c c', lk k st.mem = some c ∧ rnCh ch c = some c' ∧ lk k' m' = some c' := fun k k' hk => rnMem_has hmem hn2 (lk_mem hk)
      have hseq : ∀ k k' t xs, lk k ch = some k' → lk k' m' = some (.seq t xs) → lk k st.mem = some (.seq t xs) := fun k k' t xs hk hl => by
        obtain ⟨c, c', h1, h2, h3⟩ := hhas k k' hk
        rw [hl] at h3
        injection h3 with h3
        subst h3
        cases c with
        | box cs => simp only [rnCh] at h2; split at h2 <;> cases h2
        | seq t' xs' => simp only [rnCh] at h2; injection h2 with h2; rw [h1, h2]
        | gone => cases h2
      have hcr : ∀ c c' v, rnC ch c = some c' → CR g st.mem (cx.safe g st.mem w) w c v → CR g' m' (cx.safe g' m' w) w c' v := by
        intro c c' v hc hr
        cases c with
        | ptr k off =>
          simp only [rnC] at hc
          split at hc
          · rename_i k' hk
            injection hc with hc
            subst hc
            obtain ⟨_, b, h1, h2⟩ := hr
            obtain ⟨_, _, _, _, h3⟩ := hhas k k' hk
            exact ⟨by rw [h3]; simp, b, by rw [hg' k k' hk]; exact h1, h2⟩
          · cases hc
        | elp k i sz =>
          simp only [rnC] at hc
          split at hc
          · rename_i k' hk
            injection hc with hc
            subst hc
            obtain ⟨_, b, h1, h2⟩ := hr
            obtain ⟨_, _, _, _, h3⟩ := hhas k k' hk
            exact ⟨by rw [h3]; simp, b, by rw [hg' k k' hk]; exact h1, h2⟩
          · cases hc
        | all k =>
          simp only [rnC] at hc
          split at hc
          · rename_i k' hk
            injection hc with hc
            subst hc
            obtain ⟨_, h1, h2⟩ := hr
            obtain ⟨_, _, _, _, h3⟩ := hhas k k' hk
            exact ⟨by rw [h3]; simp, h1, fun t xs hl => by rw [hg' k k' hk]; exact h2 t xs (hseq k k' t xs hk hl)⟩
          · cases hc
        | ref k off len =>
          simp only [rnC] at hc
          split at hc
          · rename_i k' hk
            injection hc with hc
            subst hc
            obtain ⟨_, h1, h2⟩ := hr
            obtain ⟨_, _, _, _, h3⟩ := hhas k k' hk
            exact ⟨by rw [h3]; simp, h1, fun t xs hl => by rw [hg' k k' hk]; exact h2 t xs (hseq k k' t xs hk hl)⟩
          · cases hc
        | dat t x => simp only [rnC] at hc; injection hc with hc; subst hc; exact Rep.keep (fun b hb => ⟨hsafe b hb, rfl⟩) t [v] x hr
        | ip t x off =>
          simp only [rnC] at hc; injection hc with hc; subst hc
          obtain ⟨ad, es, e, hs, hcell, hrep⟩ := hr
          exact ⟨ad, es, e, hsafe _ hs, hcell, Rep.keep (fun b hb => ⟨hsafe b hb, rfl⟩) t es x hrep⟩
        | nilS => simp only [rnC] at hc; injection hc with hc; subst hc; exact hr
        | fn f => simp only [rnC] at hc; injection hc with hc; subst hc; exact hr
        | junk => simp only [rnC] at hc; injection hc with hc; subst hc; exact hr
        | bad => simp only [rnC] at hc; injection hc with hc; subst hc; trivial
      have hcrs : ∀ cs cs' vs, rnCs ch cs = some cs' → All2 (CR g st.mem (cx.safe g st.mem w) w) cs vs → All2 (CR g' m' (cx.safe g' m' w) w) cs' vs := by
        intro cs
        induction cs with
        | nil =>
          intro cs' vs hc hr
          simp only [rnCs] at hc
          injection hc with hc
          subst hc
          cases vs with
          | nil => trivial
          | cons => exact hr.elim
        | cons c cs ih =>
          intro cs' vs hc hr
          simp only [rnCs] at hc
          split at hc
          · rename_i c1 cs1 h1 h2
            injection hc with hc
            subst hc
            cases vs with
            | nil => exact hr.elim
            | cons v vs => exact ⟨hcr c c1 v h1 hr.1, ih cs1 vs h2 hr.2⟩
          · cases hc
      refine ⟨g', h.defers, h.size, fun t v' hl => ?_, fun k' c' hk => ?_, ?_, fun k' c' b hk hn hg => ?_, h.keep, fun p hp => ?_⟩
      · obtain ⟨v, h1, h2⟩ := lk_rnFr hfr hl
        have hv := h.fr t v h1
        cases v with
        | one c =>
          simp only [rnV] at h2
          split at h2
          · rename_i c' hc; injection h2 with h2; subst h2; exact hcr c c' _ hc hv
          · cases h2
        | agg cs =>
          simp only [rnV] at h2
          split at h2
          · rename_i cs' hc
            injection h2 with h2; subst h2
            obtain ⟨vs, e, hvs⟩ := hv
            exact ⟨vs, e, hcrs cs cs' vs hc hvs⟩
          · cases h2
        | tup ts => simp [rnV] at h2
        | und => simp only [rnV] at h2; injection h2 with h2; subst h2; exact hv
        | junk => simp only [rnV] at h2; injection h2 with h2; subst h2; trivial
      · obtain ⟨k, c, q1, q2, q3, q4, q5⟩ := hlive k' c' hk
        have hch := h.mem k c q2
        rw [q5]
        cases c with
        | gone => exact absurd rfl q4
        | box cs =>
          simp only [rnCh] at q3
          split at q3
          · rename_i cs' hcs
            injection q3 with q3
            subst q3
            obtain ⟨b, arr, e, hb, hall⟩ := hch
            exact ⟨b, arr, e, hb, hcrs cs cs' _ hcs hall⟩
          · cases q3
        | seq t xs =>
          simp only [rnCh] at q3
          injection q3 with q3
          subst q3
          cases hgk : g k with
          | none => rw [hgk] at hch; exact hch
          | some b =>
            rw [hgk] at hch
            obtain ⟨arr, hb, hel⟩ := hch
            exact ⟨arr, hb, hel.keep fun b hb => ⟨hsafe b hb, rfl⟩⟩
      · intro k1 k2 c1 c2 b hk1 hn1' hk2 hn2' hg1 hg2
        obtain ⟨q, d, a1, a2, a3, a4, a5⟩ := hlive k1 c1 hk1
        obtain ⟨q', d', b1, b2, b3, b4, b5⟩ := hlive k2 c2 hk2
        have := h.inj q q' d d' b a2 a4 b2 b4 (by rw [← a5]; exact hg1) (by rw [← b5]; exact hg2)
        subst this
        rw [a1] at b1
        injection b1
      · obtain ⟨q, d, a1, a2, a3, a4, a5⟩ := hlive k' c' hk
        exact h.base q d b a2 a4 (by rw [← a5]; exact hg)
      · have hmem' : p.1 ∈ own := by rw [← ho]; exact List.mem_map.2 ⟨p, hp, rfl⟩
        have := List.all_eq_true.1 hown _ hmem'
        have hlk : lk p.1 ch = some p.1 := by simpa using this
        refine ⟨by rw [hg' _ _ hlk]; exact (h.own p hp).1, ?_⟩
        obtain ⟨_, _, _, _, h3⟩ := hhas _ _ hlk
        rw [h3]; simp
    · cases he

theorem HT.rn {Q : Exit → St → Prop} {c : Code} {slots : List Nat} {ch : List (Nat × Nat)} {nx : Nat} {own : List Nat} {st' : St} (ho : cx.own.map Prod.fst = own) (he : st.rn slots ch nx own = some st') (h : HT cx st' c Q) : HT cx st c Q :=
  fun _ a w hs => let ⟨g', hs'⟩ := hs.rn he ho; h g' a w hs'

end
end Go.Ide
