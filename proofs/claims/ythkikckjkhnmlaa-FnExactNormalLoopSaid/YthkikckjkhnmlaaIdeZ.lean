/-
  A state in other words, said by the other state: what is equal is said by conditions.
-/
import Derived.Test.YthkikckjkhnmlaaIdeY
namespace Go.Ide

structure CvS where
  ch : List (Nat × Nat)
  vs : List Nat
  tr : List Nat
  fz : Bool

def lkB (k k' : Nat) (ch : List (Nat × Nat)) : Bool :=
  match lk k ch with
  | some q => Nat.beq q k'
  | none => false

theorem lkB_iff {k k' : Nat} {ch : List (Nat × Nat)} (h : lkB k k' ch = true) : lk k ch = some k' := by
  unfold lkB at h
  split at h
  · rename_i q hq; rw [hq, beq_of h]
  · cases h

def hasK (k : Nat) (ch : List (Nat × Nat)) : Bool := match lk k ch with | some _ => true | none => false

def CvS.m0 (s : CvS) (m : Mem) : Mem := bif s.fz then m.filter (fun p => !(hasK p.1 s.ch)) else []

def cvC (s : CvS) (m0 m' : Mem) (c c' : ICell) : Option (List Prop) :=
  match c' with
  | .dat t x' => (match cdat m0 t c with
    | some x => some [x' = x]
    | none => none)
  | .ptr k' off' => (match c with
    | .ptr k off => bif lkB k k' s.ch && Nat.beq off off' then some [] else none
    | _ => none)
  | .elp k' i' sz' => (match c with
    | .elp k i sz => bif lkB k k' s.ch && Nat.beq sz sz' then some [i' = i] else none
    | _ => none)
  | .ip t' x' off' => (match c with
    | .ip t x off => bif Nat.beq off off' then (if h : t' = t then some [castD h x' = x] else none) else none
    | _ => none)
  | .all k' => (match c with
    | .all k => bif lkB k k' s.ch && !(memN k s.tr) then some [] else none
    | .nilS => bif memN k' s.vs then some [] else none
    | .ref k off len => bif lkB k k' s.ch && memN k s.tr then (match lk k' m' with
      | some (.seq _ xs') => some [off = 0, List.length xs' = len]
      | _ => none) else none
    | _ => none)
  | .ref k' off' len' => (match c with
    | .ref k off len => bif lkB k k' s.ch && !(memN k s.tr) then some [off' = off, len' = len] else none
    | _ => none)
  | .nilS => (match c with
    | .nilS => some []
    | _ => none)
  | .fn f' => (match c with
    | .fn f => if f' = f then some [] else none
    | _ => none)
  | .junk => bif c.ok then some [] else none
  | .bad => none

def cvCs (s : CvS) (m0 m' : Mem) : List ICell → List ICell → Option (List Prop)
  | [], [] => some []
  | c :: r, c' :: r' => (match cvC s m0 m' c c', cvCs s m0 m' r r' with
    | some p, some q => some (p ++ q)
    | _, _ => none)
  | _, _ => none

def cvV (s : CvS) (m0 m' : Mem) (v v' : IVal) : Option (List Prop) :=
  match v' with
  | .one c' => (match v with
    | .one c => cvC s m0 m' c c'
    | _ => none)
  | .agg cs' => (match v with
    | .agg cs => cvCs s m0 m' cs cs'
    | _ => none)
  | .tup _ => none
  | .und => none
  | .junk => some []

def cvFr (s : CvS) (m0 m' : Mem) (fr : Fr) : Fr → Option (List Prop)
  | [] => some []
  | (t, v') :: r => (match lk t fr with
    | some v => (match cvV s m0 m' v v', cvFr s m0 m' fr r with
      | some p, some q => some (p ++ q)
      | _, _ => none)
    | none => none)

def cvCh (s : CvS) (m0 m' : Mem) (k : Nat) (c c' : Chunk) : Option (List Prop) :=
  match c' with
  | .box cs' => (match c with
    | .box cs => cvCs s m0 m' cs cs'
    | _ => none)
  | .seq t' xs' => (match c with
    | .seq t xs => if h : t' = t then (bif memN k s.tr then some [castD (congrArg Ty.sl h) xs' = List.take (List.length xs') xs] else some [castD (congrArg Ty.sl h) xs' = xs]) else none
    | _ => none)
  | .gone => none

def cvM (s : CvS) (m m0 m' : Mem) : Mem → Option (List Prop)
  | [] => some []
  | (k', c') :: r => (match lk k' (inv s.ch) with
    | some k => (match lk k m with
      | some c => (match cvCh s m0 m' k c c', cvM s m m0 m' r with
        | some p, some q => some (p ++ q)
        | _, _ => none)
      | none => none)
    | none => bif memN k' s.vs then (match c' with
      | .seq _ xs' => (match cvM s m m0 m' r with
        | some q => some ((xs' = []) :: q)
        | none => none)
      | _ => none) else none)

def hasM (k : Nat) (m : Mem) : Bool := match lk k m with | some _ => true | none => false

def CvS.okB (s : CvS) (m' : Mem) (own : List Nat) : Bool :=
  (nodupB (s.ch.map Prod.fst) && nodupB (s.ch.map Prod.snd)) && ((s.ch.all fun p => hasM p.2 m') && ((s.vs.all fun k => hasM k m' && !(memN k (s.ch.map Prod.snd))) && (own.all fun k => lkB k k s.ch)))

def St.cv (s : CvS) (own : List Nat) (st st' : St) : Option (List Prop) :=
  bif s.okB st'.mem own then (match cvFr s (s.m0 st.mem) st'.mem st.fr st'.fr, cvM s st.mem (s.m0 st.mem) st'.mem st'.mem with
    | some p, some q => some (p ++ q)
    | _, _ => none) else none

theorem hasM_iff {k : Nat} {m : Mem} (h : hasM k m = true) : lk k m ≠ none := by
  unfold hasM at h
  split at h
  · rename_i c hc; rw [hc]; simp
  · cases h

theorem hasK_iff {k : Nat} {ch : List (Nat × Nat)} : hasK k ch = true ↔ ∃ k', lk k ch = some k' := by
  unfold hasK
  cases lk k ch with
  | some q => exact ⟨fun _ => ⟨q, rfl⟩, fun _ => rfl⟩
  | none => exact ⟨fun h => (by cases h), fun h => (by obtain ⟨k', h⟩ := h; cases h)⟩

theorem lk_filter {p : Nat → Bool} : ∀ {m : Mem} {k : Nat} {c : Chunk}, lk k (m.filter fun q => p q.1) = some c → lk k m = some c ∧ p k = true
  | [], k, c, h => by simp [lk_nil] at h
  | (q, d) :: m, k, c, h => by
    cases hp : p q with
    | false =>
      rw [List.filter_cons_of_neg (by simp [hp])] at h
      obtain ⟨h1, h2⟩ := lk_filter h
      rw [lk_cons]
      have hne : k ≠ q := by rintro rfl; rw [hp] at h2; cases h2
      rw [if_neg hne]
      exact ⟨h1, h2⟩
    | true =>
      rw [List.filter_cons_of_pos (by simp [hp])] at h
      rw [lk_cons] at h ⊢
      split at h
      · rename_i e; subst e; rw [if_pos rfl]; exact ⟨h, hp⟩
      · rename_i e; rw [if_neg e]; exact lk_filter h

theorem lk_cvFr {s : CvS} {m0 m' : Mem} {fr : Fr} : ∀ {fr' : Fr} {ps : List Prop} {t : Nat} {v' : IVal}, cvFr s m0 m' fr fr' = some ps → AllP ps → lk t fr' = some v' → ∃ v p, lk t fr = some v ∧ cvV s m0 m' v v' = some p ∧ AllP p
  | [], ps, t, v', h, _, hl => by simp [lk_nil] at hl
  | (q, u') :: r, ps, t, v', h, hp, hl => by
    simp only [cvFr] at h
    split at h
    · rename_i v hv
      split at h
      · rename_i p q' h1 h2
        injection h with h
        subst h
        obtain ⟨hp1, hp2⟩ := hp.append
        rw [lk_cons] at hl
        split at hl
        · rename_i e; subst e; injection hl with hl; subst hl; exact ⟨v, p, hv, h1, hp1⟩
        · exact lk_cvFr h2 hp2 hl
      · cases h
    · cases h

theorem lk_cvM {s : CvS} {m m0 m' : Mem} : ∀ {l : Mem} {ps : List Prop} {k' : Nat} {c' : Chunk}, cvM s m m0 m' l = some ps → AllP ps → lk k' l = some c' →
    (∃ k c p, lk k' (inv s.ch) = some k ∧ lk k m = some c ∧ cvCh s m0 m' k c c' = some p ∧ AllP p) ∨ (lk k' (inv s.ch) = none ∧ ∃ t, c' = .seq t [])
  | [], ps, k', c', h, _, hl => by simp [lk_nil] at hl
  | (q, d) :: r, ps, k', c', h, hp, hl => by
    simp only [cvM] at h
    split at h
    · rename_i k hk
      split at h
      · rename_i c hc
        split at h
        · rename_i p q' h1 h2
          injection h with h
          subst h
          obtain ⟨hp1, hp2⟩ := hp.append
          rw [lk_cons] at hl
          split at hl
          · rename_i e; subst e; injection hl with hl; subst hl; exact .inl ⟨k, c, p, hk, hc, h1, hp1⟩
          · exact lk_cvM h2 hp2 hl
        · cases h
      · cases h
    · rename_i hk
      cases hb : memN q s.vs with
      | false => rw [hb] at h; cases h
      | true =>
        rw [hb] at h
        simp only [cond_true] at h
        split at h
        · rename_i t xs'
          split at h
          · rename_i q' h2
            injection h with h
            subst h
            rw [lk_cons] at hl
            split at hl
            · rename_i e; subst e; injection hl with hl; subst hl; exact .inr ⟨hk, t, by rw [hp.1]⟩
            · exact lk_cvM h2 hp.2 hl
          · cases h
        · cases h

section
variable {cx : Cx} {g : GM} {st st' : St} {a : Act} {w : World}

theorem Sim.cv {s : CvS} {own : List Nat} {ps : List Prop} (h : Sim cx g st a w) (he : st.cv s own st' = some ps) (hp : AllP ps) (ho : cx.own.map Prod.fst = own) (hF : s.fz = true → cx.F = []) : ∃ g', Sim cx g' st' a w := by
  unfold St.cv at he
  cases hb : s.okB st'.mem own with
  | false => rw [hb] at he; cases he
  | true =>
    rw [hb] at he
    simp only [cond_true] at he
    unfold CvS.okB at hb
    simp only [Bool.and_eq_true] at hb
    obtain ⟨⟨hn1, hn2⟩, hch, hvs, hown⟩ := hb
    have hn1 := nodupB_spec hn1
    have hn2 := nodupB_spec hn2
    split at he
    · rename_i p q hfr hmem
      injection he with he
      subst he
      obtain ⟨hp1, hp2⟩ := hp.append
      let g' : GM := fun k' => (lk k' (inv s.ch)).bind g
      have hg' : ∀ k k', lk k s.ch = some k' → g' k' = g k := fun k k' hk => by
        show (lk k' (inv s.ch)).bind g = g k
        rw [(lk_inv hn1 hn2).1 hk]
        rfl
      have hpres : ∀ k k', lk k s.ch = some k' → lk k' st'.mem ≠ none := fun k k' hk => hasM_iff (List.all_eq_true.1 hch _ (lk_mem hk))
      have hlive : ∀ k' c', lk k' st'.mem = some c' → (∃ k c p, lk k s.ch = some k' ∧ lk k st.mem = some c ∧ cvCh s (s.m0 st.mem) st'.mem k c c' = some p ∧ AllP p ∧ c ≠ .gone ∧ g' k' = g k) ∨ (g' k' = none ∧ ∃ t, c' = .seq t []) := fun k' c' hk => by
        rcases lk_cvM hmem hp2 hk with ⟨k, c, p, h1, h2, h3, h4⟩ | ⟨h1, h2⟩
        · have h5 := (lk_inv hn1 hn2).2 h1
          refine .inl ⟨k, c, p, h5, h2, h3, h4, ?_, hg' k k' h5⟩
          rintro rfl
          unfold cvCh at h3
          split at h3 <;> cases h3
        · refine .inr ⟨?_, h2⟩
          show (lk k' (inv s.ch)).bind g = none
          rw [h1]; rfl
      have hlv : ∀ b, Live g' st'.mem b → ∃ k k' c, lk k s.ch = some k' ∧ lk k st.mem = some c ∧ c ≠ .gone ∧ g k = some b := by
        rintro b ⟨k', c', hk, _, hgk⟩
        rcases hlive k' c' hk with ⟨k, c, p, q1, q2, _, _, q5, q6⟩ | ⟨q1, _⟩
        · exact ⟨k, k', c, q1, q2, q5, by rw [← q6]; exact hgk⟩
        · rw [q1] at hgk; cases hgk
      have hsafe : ∀ b, cx.safe g st.mem w b → cx.safe g' st'.mem w b := fun b ⟨h1, h2, h3⟩ => by
        refine ⟨h1, h2, fun hl => ?_⟩
        obtain ⟨k, k', c, q1, q2, q3, q4⟩ := hlv b hl
        exact h3 ⟨k, c, q2, q3, q4⟩
      have hread : ReadM g st.mem (s.m0 st.mem) (cx.safe g' st'.mem w) w := by
        intro k t xs hl
        unfold CvS.m0 at hl
        cases hz : s.fz with
        | false => rw [hz] at hl; simp [lk_nil] at hl
        | true =>
          rw [hz] at hl
          simp only [cond_true] at hl
          obtain ⟨h1, h2⟩ := lk_filter (p := fun k => !(hasK k s.ch)) hl
          refine ⟨h1, ?_⟩
          have hc := h.mem k _ h1
          cases hgk : g k with
          | none => rw [hgk] at hc; exact hc
          | some b =>
            rw [hgk] at hc
            obtain ⟨arr, hb, hel⟩ := hc
            refine ⟨⟨hb.lt, fun hlt => ?_, fun hl => ?_⟩, arr, hb, hel.keep fun b hb => ⟨hsafe b hb, rfl⟩⟩
            · rcases h.base k _ b h1 (by simp) hgk with hge | hf
              · omega
              · rw [hF hz] at hf; simp at hf
            · obtain ⟨k1, k1', c1, q1, q2, q3, q4⟩ := hlv b hl
              have := h.inj k k1 _ c1 b h1 (by simp) q2 q3 hgk q4
              subst this
              rw [hasK_iff.2 ⟨_, q1⟩] at h2
              cases h2
      have hseq : ∀ k k' t xs', lk k s.ch = some k' → lk k' st'.mem = some (.seq t xs') → memN k s.tr = false → lk k st.mem = some (.seq t xs') := fun k k' t xs' hk hl htr => by
        rcases hlive k' _ hl with ⟨k1, c, p, q1, q2, q3, q4, _⟩ | ⟨q1, _⟩
        · have : k1 = k := by
            have a1 := (lk_inv hn1 hn2).1 q1
            have a2 := (lk_inv hn1 hn2).1 hk
            rw [a1] at a2
            injection a2
          subst this
          cases c with
          | seq t1 xs1 =>
            simp only [cvCh] at q3
            split at q3
            · rename_i ht
              subst ht
              rw [htr] at q3
              simp only [cond_false] at q3
              injection q3 with q3
              subst q3
              have := q4.1
              simp only [castD] at this
              rw [q2, this]
            · cases q3
          | box cs => cases q3
          | gone => cases q3
        · have : lk k' (inv s.ch) = some k := (lk_inv hn1 hn2).1 hk
          rcases lk_cvM hmem hp2 hl with ⟨k1, c, p, h1, h2, h3, h4⟩ | ⟨h1, _⟩
          · have : k1 = k := by rw [this] at h1; injection h1 with h1; exact h1.symm
            subst this
            cases c with
            | seq t1 xs1 =>
              simp only [cvCh] at h3
              split at h3
              · rename_i ht
                subst ht
                rw [htr] at h3
                simp only [cond_false] at h3
                injection h3 with h3
                subst h3
                have := h4.1
                simp only [castD] at this
                rw [h2, this]
              · cases h3
            | box cs => cases h3
            | gone => cases h3
          · rw [this] at h1; cases h1
      have hcr : ∀ c c' p v, cvC s (s.m0 st.mem) st'.mem c c' = some p → AllP p → CR g st.mem (cx.safe g st.mem w) w c v → CR g' st'.mem (cx.safe g' st'.mem w) w c' v := by
        intro c c' p v hc hp hr
        cases c' with
        | dat t x' =>
          simp only [cvC] at hc
          split at hc
          · rename_i x hx
            injection hc with hc
            subst hc
            rw [hp.1]
            exact cdat_rep hsafe hread hx hr
          · cases hc
        | ptr k' off' =>
          cases c with
          | ptr k off =>
            simp only [cvC] at hc
            cases hb : (lkB k k' s.ch && Nat.beq off off') with
            | false => rw [hb] at hc; cases hc
            | true =>
              simp only [Bool.and_eq_true] at hb
              have hk := lkB_iff hb.1
              obtain ⟨_, b, h1, h2⟩ := hr
              exact ⟨hpres k k' hk, b, by rw [hg' k k' hk]; exact h1, by rw [← beq_of hb.2]; exact h2⟩
          | _ => cases hc
        | elp k' i' sz' =>
          cases c with
          | elp k i sz =>
            simp only [cvC] at hc
            cases hb : (lkB k k' s.ch && Nat.beq sz sz') with
            | false => rw [hb] at hc; cases hc
            | true =>
              rw [hb] at hc
              simp only [cond_true] at hc
              injection hc with hc
              subst hc
              simp only [Bool.and_eq_true] at hb
              have hk := lkB_iff hb.1
              obtain ⟨_, b, h1, h2⟩ := hr
              exact ⟨hpres k k' hk, b, by rw [hg' k k' hk]; exact h1, by rw [← beq_of hb.2, hp.1]; exact h2⟩
          | _ => cases hc
        | ip t' x' off' =>
          cases c with
          | ip t x off =>
            simp only [cvC] at hc
            cases hb : Nat.beq off off' with
            | false => rw [hb] at hc; cases hc
            | true =>
              rw [hb] at hc
              simp only [cond_true] at hc
              split at hc
              · rename_i ht
                subst ht
                injection hc with hc
                subst hc
                have := beq_of hb
                subst this
                have hx : x' = x := hp.1
                subst hx
                obtain ⟨ad, es, e, hs, hcell, hrep⟩ := hr
                exact ⟨ad, es, e, hsafe _ hs, hcell, Rep.keep (fun b hb => ⟨hsafe b hb, rfl⟩) t' es x' hrep⟩
              · cases hc
          | _ => cases hc
        | all k' =>
          cases c with
          | all k =>
            simp only [cvC] at hc
            cases hb : (lkB k k' s.ch && !(memN k s.tr)) with
            | false => rw [hb] at hc; cases hc
            | true =>
              simp only [Bool.and_eq_true, Bool.not_eq_true'] at hb
              have hk := lkB_iff hb.1
              obtain ⟨_, h1, h2⟩ := hr
              exact ⟨hpres k k' hk, h1, fun t xs hl => by rw [hg' k k' hk]; exact h2 t xs (hseq k k' t xs hk hl hb.2)⟩
          | nilS =>
            simp only [cvC] at hc
            cases hb : memN k' s.vs with
            | false => rw [hb] at hc; cases hc
            | true =>
              have hv := List.all_eq_true.1 hvs _ (memN_iff.1 hb)
              simp only [Bool.and_eq_true, Bool.not_eq_true'] at hv
              obtain ⟨b, hr⟩ := hr
              refine ⟨hasM_iff hv.1, by subst hr; rfl, fun t xs hl => ?_⟩
              have : g' k' = none := by
                show (lk k' (inv s.ch)).bind g = none
                cases hi : lk k' (inv s.ch) with
                | none => rfl
                | some k =>
                  have := lk_map_snd ((lk_inv hn1 hn2).2 hi)
                  rw [memN_iff.2 this] at hv
                  cases hv.2
              rw [this]
              exact ⟨b, hr⟩
          | ref k off len =>
            simp only [cvC] at hc
            cases hb : (lkB k k' s.ch && memN k s.tr) with
            | false => rw [hb] at hc; cases hc
            | true =>
              rw [hb] at hc
              simp only [cond_true] at hc
              simp only [Bool.and_eq_true] at hb
              have hk := lkB_iff hb.1
              split at hc
              · rename_i t0 xs0 hl0
                injection hc with hc
                subst hc
                obtain ⟨ho0, hlen, _⟩ := hp
                subst ho0
                subst hlen
                obtain ⟨_, h1, h2⟩ := hr
                refine ⟨hpres k k' hk, h1, fun t xs hl => ?_⟩
                rw [hl0] at hl
                injection hl with hl
                injection hl with e1 e2
                subst e1
                have e2 := eq_of_heq e2
                subst e2
                rw [hg' k k' hk]
                rcases lk_cvM hmem hp2 hl0 with ⟨k1, c, p, q1, q2, q3, q4⟩ | ⟨q1, _⟩
                · have : k1 = k := by
                    have a2 := (lk_inv hn1 hn2).1 hk
                    rw [q1] at a2
                    injection a2
                  subst this
                  cases c with
                  | seq t1 xs1 =>
                    simp only [cvCh] at q3
                    split at q3
                    · rename_i ht
                      subst ht
                      obtain ⟨_, hx⟩ := h2 _ xs1 q2
                      rcases hx with ⟨hz, hn, a, ha⟩ | ⟨b, cap, arr, hg, e, k1, k2, k3, k4⟩
                      · rw [hn rfl, hz.symm.symm]; exact ⟨a, by rw [ha]⟩
                      · rw [hg]
                        exact ⟨cap, arr, by rw [e, Nat.zero_mul], k1, k2, by rw [Nat.zero_add] at k3; exact k3, k4⟩
                    · cases q3
                  | box cs => cases q3
                  | gone => cases q3
                · rw [(lk_inv hn1 hn2).1 hk] at q1; cases q1
              · cases hc
          | _ => cases hc
        | ref k' off' len' =>
          cases c with
          | ref k off len =>
            simp only [cvC] at hc
            cases hb : (lkB k k' s.ch && !(memN k s.tr)) with
            | false => rw [hb] at hc; cases hc
            | true =>
              rw [hb] at hc
              simp only [cond_true] at hc
              injection hc with hc
              subst hc
              obtain ⟨e1, e2, _⟩ := hp
              subst e1
              subst e2
              simp only [Bool.and_eq_true, Bool.not_eq_true'] at hb
              have hk := lkB_iff hb.1
              obtain ⟨_, h1, h2⟩ := hr
              exact ⟨hpres k k' hk, h1, fun t xs hl => by rw [hg' k k' hk]; exact h2 t xs (hseq k k' t xs hk hl hb.2)⟩
          | _ => cases hc
        | nilS =>
          cases c with
          | nilS => exact hr
          | _ => cases hc
        | fn f' =>
          cases c with
          | fn f =>
            simp only [cvC] at hc
            split at hc
            · rename_i hf; subst hf; exact hr
            · cases hc
          | _ => cases hc
        | junk =>
          simp only [cvC] at hc
          cases hb : c.ok with
          | false => rw [hb] at hc; cases hc
          | true => exact CR_one hb hr
        | bad => cases hc
      have hcrs : ∀ cs cs' p vs, cvCs s (s.m0 st.mem) st'.mem cs cs' = some p → AllP p → All2 (CR g st.mem (cx.safe g st.mem w) w) cs vs → All2 (CR g' st'.mem (cx.safe g' st'.mem w) w) cs' vs := by
        intro cs
        induction cs with
        | nil =>
          intro cs' p vs hc hp hr
          cases cs' with
          | cons => cases hc
          | nil => cases vs with
            | nil => trivial
            | cons => exact hr.elim
        | cons c cs ih =>
          intro cs' p vs hc hp hr
          cases cs' with
          | nil => cases hc
          | cons c' cs' =>
            simp only [cvCs] at hc
            split at hc
            · rename_i p1 p2 h1 h2
              injection hc with hc
              subst hc
              obtain ⟨hp1, hp2⟩ := hp.append
              cases vs with
              | nil => exact hr.elim
              | cons v vs => exact ⟨hcr c c' p1 v h1 hp1 hr.1, ih cs' p2 vs h2 hp2 hr.2⟩
            · cases hc
      refine ⟨g', h.defers, h.size, fun t v' hl => ?_, fun k' c' hk => ?_, ?_, fun k' c' b hk hn hg => ?_, h.keep, fun p hp => ?_⟩
      · obtain ⟨v, p, h1, h2, h3⟩ := lk_cvFr hfr hp1 hl
        have hv := h.fr t v h1
        unfold cvV at h2
        split at h2
        · split at h2
          · exact hcr _ _ p _ h2 h3 hv
          · cases h2
        · split at h2
          · obtain ⟨vs, e, hvs⟩ := hv
            exact ⟨vs, e, hcrs _ _ p vs h2 h3 hvs⟩
          · cases h2
        · cases h2
        · cases h2
        · trivial
      · rcases hlive k' c' hk with ⟨k, c, p, q1, q2, q3, q4, q5, q6⟩ | ⟨q1, t, q2⟩
        · have hch := h.mem k c q2
          rw [q6]
          cases c' with
          | box cs' =>
            cases c with
            | box cs =>
              obtain ⟨b, arr, e, hb, hall⟩ := hch
              exact ⟨b, arr, e, hb, hcrs cs cs' _ _ q3 q4 hall⟩
            | seq t xs => cases q3
            | gone => cases q3
          | gone => cases q3
          | seq t' xs' =>
            cases c with
            | box cs => cases q3
            | gone => cases q3
            | seq t xs =>
              simp only [cvCh] at q3
              split at q3
              · rename_i ht
                subst ht
                have hsub : ∃ n, xs' = xs.take n := by
                  cases htr : memN k s.tr with
                  | true =>
                    rw [htr] at q3
                    simp only [cond_true] at q3
                    injection q3 with q3
                    subst q3
                    exact ⟨_, q4.1⟩
                  | false =>
                    rw [htr] at q3
                    simp only [cond_false] at q3
                    injection q3 with q3
                    subst q3
                    have : xs' = xs := q4.1
                    exact ⟨xs.length, by rw [this, List.take_length]⟩
                obtain ⟨n, hn⟩ := hsub
                cases hgk : g k with
                | none =>
                  rw [hgk] at hch
                  have : xs = [] := hch
                  subst this
                  show xs' = []
                  rw [hn]; simp
                | some b =>
                  rw [hgk] at hch
                  obtain ⟨arr, hb, hel⟩ := hch
                  refine ⟨arr, hb, fun i hi => ?_⟩
                  subst hn
                  have hi' : i < xs.length := by
                    have := List.length_take_le' n xs
                    omega
                  obtain ⟨es, k1, k2⟩ := (hel.keep fun b hb => ⟨hsafe b hb, rfl⟩ : ElsR (cx.safe g' st'.mem w) w t' xs arr) i hi'
                  refine ⟨es, k1, ?_⟩
                  rw [List.getElem_take]
                  exact k2
              · cases q3
        · subst q2
          rw [q1]
          rfl
      · intro k1 k2 c1 c2 b hk1 hn1' hk2 hn2' hg1 hg2
        rcases hlive k1 c1 hk1 with ⟨q, d, p, a1, a2, a3, a4, a5, a6⟩ | ⟨a1, _⟩
        · rcases hlive k2 c2 hk2 with ⟨q', d', p', b1, b2, b3, b4, b5, b6⟩ | ⟨b1, _⟩
          · have := h.inj q q' d d' b a2 a5 b2 b5 (by rw [← a6]; exact hg1) (by rw [← b6]; exact hg2)
            subst this
            rw [a1] at b1
            injection b1
          · rw [b1] at hg2; cases hg2
        · rw [a1] at hg1; cases hg1
      · rcases hlive k' c' hk with ⟨q, d, p, a1, a2, a3, a4, a5, a6⟩ | ⟨a1, _⟩
        · exact h.base q d b a2 a5 (by rw [← a6]; exact hg)
        · rw [a1] at hg; cases hg
      · have hmem' : p.1 ∈ own := by rw [← ho]; exact List.mem_map.2 ⟨p, hp, rfl⟩
        have hlk := lkB_iff (List.all_eq_true.1 hown _ hmem')
        exact ⟨by rw [hg' _ _ hlk]; exact (h.own p hp).1, hpres _ _ hlk⟩
    · cases he

theorem HT.cv {Q : Exit → St → Prop} {c : Code} {s : CvS} {own : List Nat} {ps : List Prop} (st' : St) (ho : cx.own.map Prod.fst = own) (hF : s.fz = true → cx.F = []) (he : st.cv s own st' = some ps) (hp : AllP ps) (h : HT cx st' c Q) : HT cx st c Q :=
  fun _ a w hs => let ⟨g', hs'⟩ := hs.cv he hp ho hF; h g' a w hs'

end
end Go.Ide
