/-
  Regions whose order is drawn.
-/
import Derived.Test.YthkikckjkhnmlaaIdeW
namespace Go.Ide

abbrev ER := Option Tmp × Eff

/-- The state that those of the operations have made that are told. -/
def selFr (sel : Nat → Bool) : Nat → List ER → Fr → Fr
  | _, [], fr => fr
  | i, (d, e) :: r, fr => selFr sel (i + 1) r (bif sel i then (match d with | some t => (t, e.val) :: fr | none => fr) else fr)

def selMem (sel : Nat → Bool) : Nat → List ER → Mem → Mem
  | _, [], m => m
  | i, (_, e) :: r, m => selMem sel (i + 1) r (bif sel i then e.new ++ m else m)

def lastW (sel : Nat → Bool) (t : Tmp) : Nat → List ER → Option IVal
  | _, [] => none
  | i, (d, e) :: r => (lastW sel t (i + 1) r).or (if sel i = true ∧ d = some t then some e.val else none)

def lastN (sel : Nat → Bool) (k : Nat) : Nat → List ER → Option Chunk
  | _, [] => none
  | i, (_, e) :: r => (lastN sel k (i + 1) r).or (if sel i = true then lk k e.new else none)

theorem lk_selFr {sel : Nat → Bool} {t : Tmp} : ∀ {l : List ER} {n : Nat} {fr : Fr}, lk t (selFr sel n l fr) = (lastW sel t n l).or (lk t fr)
  | [], _, _ => by simp [selFr, lastW]
  | (d, e) :: r, n, fr => by
    simp only [selFr, lastW]
    rw [lk_selFr, Option.or_assoc]
    congr 1
    cases hs : sel n with
    | false => simp
    | true =>
      simp only [cond_true, true_and]
      cases d with
      | none => simp
      | some t' =>
        rw [lk_cons]
        by_cases h : t = t'
        · subst h; simp
        · rw [if_neg h, if_neg (fun e => h (by injection e with e; exact e.symm))]; rfl

theorem lk_selMem {sel : Nat → Bool} {k : Nat} : ∀ {l : List ER} {n : Nat} {m : Mem}, lk k (selMem sel n l m) = (lastN sel k n l).or (lk k m)
  | [], _, _ => by simp [selMem, lastN]
  | (d, e) :: r, n, m => by
    simp only [selMem, lastN]
    rw [lk_selMem, Option.or_assoc]
    congr 1
    cases hs : sel n with
    | false => simp
    | true => simp only [cond_true, if_true]; rw [lk_append]

theorem lastW_congr {sel sel' : Nat → Bool} {t : Tmp} : ∀ {l : List ER} {n : Nat}, (∀ (j : Nat) (d : Option Tmp) (e : Eff), l[j]? = some (d, e) → d = some t → sel (n + j) = sel' (n + j)) → lastW sel t n l = lastW sel' t n l
  | [], _, _ => rfl
  | (d, e) :: r, n, h => by
    simp only [lastW]
    have ih : lastW sel t (n + 1) r = lastW sel' t (n + 1) r := lastW_congr fun j d e hj hd => by
      have := h (j + 1) d e (by simpa using hj) hd
      have e1 : n + (j + 1) = n + 1 + j := by omega
      rw [e1] at this
      exact this
    have hh : (if sel n = true ∧ d = some t then some e.val else none) = if sel' n = true ∧ d = some t then some e.val else none := by
      by_cases hd : d = some t
      · have h0 : sel n = sel' n := by simpa using h 0 d e rfl hd
        rw [h0]
      · rw [if_neg (fun x => hd x.2), if_neg (fun x => hd x.2)]
    rw [ih, hh]

theorem lastW_at {sel : Nat → Bool} {t : Tmp} {v : Eff} : ∀ {l : List ER} {n i : Nat}, l[i]? = some (some t, v) → sel (n + i) = true → (∀ (j : Nat) (d : Option Tmp) (e : Eff), i < j → l[j]? = some (d, e) → d = some t → sel (n + j) = false) → lastW sel t n l = some v.val
  | [], n, i, h, _, _ => by simp at h
  | (d, e) :: r, n, 0, h, hs, hn => by
    simp at h
    obtain ⟨rfl, rfl⟩ := h
    have hz : lastW sel t (n + 1) r = lastW (fun _ => false) t (n + 1) r := lastW_congr fun j d e hj hd => by
      have := hn (j + 1) d e (by omega) (by simpa using hj) hd
      rwa [show n + (j + 1) = n + 1 + j from by omega] at this
    have hf : ∀ (l : List ER) (n : Nat), lastW (fun _ => false) t n l = none := by
      intro l
      induction l with
      | nil => intro _; rfl
      | cons p l ih => intro n; obtain ⟨d, e⟩ := p; simp [lastW, ih]
    simp only [lastW]
    rw [hz, hf]
    have hs : sel n = true := by simpa using hs
    simp [hs]
  | (d, e) :: r, n, i + 1, h, hs, hn => by
    simp only [lastW]
    have := lastW_at (l := r) (n := n + 1) (i := i) (by simpa using h) (by rwa [show n + (i + 1) = n + 1 + i from by omega] at hs) (fun j d e hlt hj hd => by
      have := hn (j + 1) d e (by omega) (by simpa using hj) hd
      rwa [show n + (j + 1) = n + 1 + j from by omega] at this)
    rw [this]
    rfl

theorem lastN_some {sel : Nat → Bool} {k : Nat} {ch : Chunk} : ∀ {l : List ER} {n : Nat}, lastN sel k n l = some ch → ∃ (j : Nat) (d : Option Tmp) (e : Eff), l[j]? = some (d, e) ∧ sel (n + j) = true ∧ lk k e.new = some ch
  | [], _, h => by simp [lastN] at h
  | (d, e) :: r, n, h => by
    simp only [lastN] at h
    cases hx : lastN sel k (n + 1) r with
    | some c =>
      rw [hx] at h
      have h : c = ch := by simpa using h
      subst h
      obtain ⟨j, d', e', h1, h2, h3⟩ := lastN_some hx
      exact ⟨j + 1, d', e', by simpa using h1, by rwa [show n + (j + 1) = n + 1 + j from by omega], h3⟩
    | none =>
      rw [hx] at h
      simp only [Option.none_or] at h
      split at h
      · rename_i hs; exact ⟨0, d, e, rfl, by simpa using hs, h⟩
      · cases h

theorem lastN_none {sel : Nat → Bool} {k : Nat} : ∀ {l : List ER} {n : Nat}, lastN sel k n l = none → ∀ (j : Nat) (d : Option Tmp) (e : Eff), l[j]? = some (d, e) → sel (n + j) = true → lk k e.new = none
  | [], _, _, j, d, e, hj, _ => by simp at hj
  | (d0, e0) :: r, n, h, j, d, e, hj, hs => by
    simp only [lastN, Option.or_eq_none_iff] at h
    cases j with
    | zero =>
      simp at hj
      obtain ⟨rfl, rfl⟩ := hj
      have hs : sel n = true := by simpa using hs
      have := h.2
      rwa [if_pos hs] at this
    | succ j => exact lastN_none h.1 j d e (by simpa using hj) (by rwa [show n + (j + 1) = n + 1 + j from by omega] at hs)

def memN (j : Nat) : List Nat → Bool
  | [] => false
  | a :: l => Nat.beq j a || memN j l

theorem memN_iff {j : Nat} : ∀ {l : List Nat}, memN j l = true ↔ j ∈ l
  | [] => by simp [memN]
  | a :: l => by
    simp only [memN, Bool.or_eq_true, memN_iff, List.mem_cons]
    constructor
    · rintro (h | h)
      · exact .inl (beq_of h)
      · exact .inr h
    · rintro (h | h)
      · subst h; exact .inl (Nat.beq_refl _)
      · exact .inr h

/-- The slots that an operation looks at. -/
def looksO (all : List Oper) (o : Oper) : List Tmp :=
  (o.op.operands.toList.filterMap fun | .tmp t => some t | _ => none) ++ (match o.guard with
    | some (j, _) => (gslot all j).toList
    | none => [])

def directs (o : Oper) : List Nat := (o.after.toList.filter fun e => Region.binds .any e).map (·.on)

/-- The two must not change places. -/
def conflictB (all : List Oper) (x y : Oper) : Bool :=
  (match x.dst with
  | some t => memN t (looksO all y) || (match y.dst with | some u => Nat.beq t u | none => false)
  | none => false) ||
  (match y.dst with
  | some t => memN t (looksO all x)
  | none => false)

def okFrom (all : List Oper) (Ds : List (List Nat)) (h : Nat) : Nat → List Oper → Bool
  | _, [] => true
  | i, o :: os =>
    ((directs o).all fun d => Nat.blt d i) &&
    (((Ds.getD i []).all fun j => memN j (directs o) || (directs o).any fun d => memN j (Ds.getD d []))) &&
    ((List.range i).all fun j => memN j (Ds.getD i []) || (Nat.blt i h && !(conflictB all (all.getD j default) o))) &&
    okFrom all Ds h (i + 1) os

theorem okFrom_spec {all : List Oper} {Ds : List (List Nat)} {h : Nat} : ∀ {os : List Oper} {n : Nat}, okFrom all Ds h n os = true → ∀ (i : Nat) (o : Oper), os[i]? = some o →
    (∀ d ∈ directs o, d < n + i) ∧ (∀ j ∈ Ds.getD (n + i) [], j ∈ directs o ∨ ∃ d ∈ directs o, j ∈ Ds.getD d []) ∧ (∀ j, j < n + i → j ∈ Ds.getD (n + i) [] ∨ (n + i < h ∧ conflictB all (all.getD j default) o = false))
  | [], _, _, i, o, ho => by simp at ho
  | o0 :: os, n, hk, i, o, ho => by
    simp only [okFrom, Bool.and_eq_true] at hk
    obtain ⟨⟨⟨h1, h2⟩, h3⟩, h4⟩ := hk
    cases i with
    | succ i =>
      have := okFrom_spec h4 i o (by simpa using ho)
      rwa [show n + 1 + i = n + (i + 1) from by omega] at this
    | zero =>
      simp at ho
      subst ho
      refine ⟨fun d hd => ?_, fun j hj => ?_, fun j hj => ?_⟩
      · have := List.all_eq_true.1 h1 d hd
        exact Nat.lt_of_succ_le (by simpa [Nat.blt] using this)
      · have := List.all_eq_true.1 h2 j hj
        simp only [Bool.or_eq_true] at this
        rcases this with h | h
        · exact .inl (memN_iff.1 h)
        · obtain ⟨d, hd, hm⟩ := List.any_eq_true.1 h
          exact .inr ⟨d, hd, memN_iff.1 hm⟩
      · have := List.all_eq_true.1 h3 j (by simpa using hj)
        simp only [Bool.or_eq_true, Bool.and_eq_true, Bool.not_eq_true'] at this
        rcases this with h | ⟨h, h'⟩
        · exact .inl (memN_iff.1 h)
        · exact .inr ⟨Nat.lt_of_succ_le (by simpa [Nat.blt] using h), h'⟩

theorem conflict_look {all : List Oper} {x y : Oper} (h : conflictB all x y = false) : (∀ t, x.dst = some t → t ∉ looksO all y) ∧ (∀ t, x.dst = some t → y.dst ≠ some t) ∧ (∀ t, y.dst = some t → t ∉ looksO all x) := by
  unfold conflictB at h
  simp only [Bool.or_eq_false_iff] at h
  obtain ⟨h1, h2⟩ := h
  refine ⟨fun t ht hm => ?_, fun t ht hy => ?_, fun t ht hm => ?_⟩
  · simp only [ht, Bool.or_eq_false_iff] at h1
    rw [memN_iff.2 hm] at h1
    cases h1.1
  · simp [ht, hy] at h1
  · simp only [ht] at h2
    rw [memN_iff.2 hm] at h2
    cases h2

structure HR where
  r : OH
  D : List Nat

/-- The first operations, each in the state that those make that come before it in every order. -/
def ihead (P : Program) (N : Nat) (all : List Oper) (st : St) : List Oper → List HR → List ER → Nat → Option (List ER × List Prop × Nat)
  | [], _, done, nx => some (done, [], nx)
  | o :: os, r :: rs, done, nx =>
    (match igop P all o r.r (selFr (fun j => memN j r.D) 0 done st.fr) (selMem (fun j => memN j r.D) 0 done st.mem) nx with
    | some (e, cs) => bif (dOK N o.dst && e.upd.isEmpty) && freshB (selMem (fun _ => true) 0 done st.mem) e.new then
        (match ihead P N all st os rs (done ++ [(o.dst, e)]) (nx + e.new.length) with
        | some (l, cs', n) => some (l, cs ++ cs', n)
        | none => none) else none
    | none => none)
  | _ :: _, [], _, _ => none

/-- What is known of each of the first operations. -/
structure HeadOK (P : Program) (N : Nat) (all : List Oper) (st : St) (ers : List ER) (i : Nat) (o : Oper) (D : List Nat) : Prop where
  got : ∃ (r : OH) (nx : Nat) (e : Eff) (cs : List Prop), ers[i]? = some (o.dst, e) ∧ igop P all o r (selFr (fun j => memN j D) 0 (ers.take i) st.fr) (selMem (fun j => memN j D) 0 (ers.take i) st.mem) nx = some (e, cs) ∧ AllP cs ∧
    dOK N o.dst = true ∧ e.upd = [] ∧ Fresh (selMem (fun _ => true) 0 (ers.take i) st.mem) e.new

theorem ihead_spec {P : Program} {N : Nat} {all : List Oper} {st : St} : ∀ {os : List Oper} {rs : List HR} {done ers : List ER} {cs : List Prop} {nx nx' : Nat}, ihead P N all st os rs done nx = some (ers, cs, nx') → AllP cs →
    (∃ l, ers = done ++ l ∧ l.length = os.length) ∧ ∀ (i : Nat) (o : Oper), os[i]? = some o → HeadOK P N all st ers (done.length + i) o ((rs.map HR.D).getD i [])
  | [], rs, done, ers, cs, nx, nx', h, _ => by
    simp only [ihead] at h
    injection h with h
    injection h with h1 h
    subst h1
    exact ⟨⟨[], by simp, rfl⟩, fun i o ho => by simp at ho⟩
  | o :: os, [], done, ers, cs, nx, nx', h, _ => by cases h
  | o :: os, r :: rs, done, ers, cs, nx, nx', h, hc => by
    simp only [ihead] at h
    split at h
    · rename_i e cs0 hi
      cases hb : ((dOK N o.dst && e.upd.isEmpty) && freshB (selMem (fun _ => true) 0 done st.mem) e.new) with
      | false => rw [hb] at h; cases h
      | true =>
        rw [hb] at h
        simp only [cond_true] at h
        simp only [Bool.and_eq_true, List.isEmpty_iff] at hb
        obtain ⟨⟨hd, hu⟩, hf⟩ := hb
        split at h
        · rename_i l cs' n hr
          injection h with h
          injection h with h1 h
          injection h with h2 h3
          subst h1
          subst h2
          obtain ⟨hc1, hc2⟩ := hc.append
          obtain ⟨⟨l', e1, e2⟩, hrest⟩ := ihead_spec hr hc2
          refine ⟨⟨(o.dst, e) :: l', by rw [e1]; simp, by simp [e2]⟩, fun i o' ho' => ?_⟩
          cases i with
          | zero =>
            simp at ho'
            subst ho'
            have ht : l.take done.length = done := by rw [e1]; simp
            refine ⟨⟨r.r, nx, e, cs0, ?_, ?_, hc1, hd, hu, ?_⟩⟩
            · rw [e1]; simp
            · simp only [Nat.add_zero, ht, List.map_cons]; exact hi
            · simp only [Nat.add_zero, ht]; exact freshB_spec hf
          | succ i =>
            have := hrest i o' (by simpa using ho')
            have hlen : (done ++ [(o.dst, e)]).length + i = done.length + (i + 1) := by simp; omega
            rw [hlen] at this
            simpa using this
        · cases h
    · cases h

theorem lastW_take {sel : Nat → Bool} {t : Tmp} : ∀ {l : List ER} {n i : Nat}, (∀ j, i ≤ j → sel (n + j) = false) → lastW sel t n (l.take i) = lastW sel t n l
  | [], _, _, _ => by simp
  | (d, e) :: r, n, 0, h => by
    have : lastW sel t n ((d, e) :: r) = lastW (fun _ => false) t n ((d, e) :: r) := lastW_congr fun j _ _ _ _ => h j (Nat.zero_le _)
    rw [this]
    have hf : ∀ (l : List ER) (n : Nat), lastW (fun _ => false) t n l = none := by
      intro l
      induction l with
      | nil => intro _; rfl
      | cons p l ih => intro n; obtain ⟨d, e⟩ := p; simp [lastW, ih]
    rw [hf]
    rfl
  | (d, e) :: r, n, i + 1, h => by
    simp only [List.take_succ_cons, lastW]
    rw [lastW_take (fun j hj => by have := h (j + 1) (by omega); rwa [show n + (j + 1) = n + 1 + j from by omega] at this)]

theorem getElem_take_er {l : List ER} {i j : Nat} {p : ER} (h : (l.take i)[j]? = some p) : j < i ∧ l[j]? = some p := by
  rw [List.getElem?_take] at h
  split at h
  · rename_i hlt; exact ⟨hlt, h⟩
  · cases h

/-- Operands in two frames that agree on what is looked at. -/
theorem ev_congr {fr fr' : Fr} {x : Operand} (h : ∀ t, x = .tmp t → lk t fr' = lk t fr) : ev fr' x = ev fr x := by
  cases x with
  | tmp t => exact h t rfl
  | _ => rfl

theorem evl_congr {fr fr' : Fr} : ∀ {xs : List Operand}, (∀ x ∈ xs, ev fr' x = ev fr x) → evl fr' xs = evl fr xs
  | [], _ => rfl
  | x :: xs, h => by simp only [evl]; rw [h x (by simp), evl_congr fun y hy => h y (by simp [hy])]

theorem evs_congr {fr fr' : Fr} : ∀ {xs : List (Nat × Operand)}, (∀ x ∈ xs.map (·.2), ev fr' x = ev fr x) → evs fr' xs = evs fr xs
  | [], _ => rfl
  | (i, x) :: xs, h => by simp only [evs]; rw [h x (by simp), evs_congr fun y hy => h y (by simp only [List.map_cons, List.mem_cons]; exact .inr hy)]

theorem evo_congr {fr fr' : Fr} {x : Option Operand} (h : ∀ y, x = some y → ev fr' y = ev fr y) : evo fr' x = evo fr x := by
  cases x with
  | none => rfl
  | some y => simp only [evo]; rw [h y rfl]

theorem iop_congr {P : Program} {fr fr' : Fr} {m : Mem} {nx : Nat} {h : Hint} {o : Oper} (hk : ∀ x ∈ o.op.operands.toList, ev fr' x = ev fr x) : iop P fr' m nx h o = iop P fr m nx h o := by
  unfold iop
  cases ho : o.op <;> rw [ho] at hk <;> simp only [Op.operands] at hk <;> try simp only
  case move x => rw [hk x (by simp)]
  case assign x => rw [hk x (by simp)]
  case pick c x y =>
    cases h with
    | tv b => simp only; rw [hk c (by simp), hk (if b then x else y) (by cases b <;> simp)]
    | _ => rfl
  case box T x => rw [hk x (by simp)]
  case build T ps => rw [evs_congr fun x hx => hk x (by simpa using hx)]
  case buildSlice T n ps => rw [evs_congr fun x hx => hk x (by simpa using hx)]
  case load T x => rw [hk x (by simp)]
  case store T x y => rw [hk x (by simp), hk y (by simp)]
  case nilCheck x => rw [hk x (by simp)]
  case binOp op T x y T' => rw [hk x (by simp), hk y (by simp)]
  case unOp op T x => rw [hk x (by simp)]
  case convert T U x => rw [hk x (by simp)]
  case makeSlice T l c => rw [hk l (by simp), hk c (by simp)]
  case slice T x lo hi mx =>
    cases mx with
    | some _ => rfl
    | none =>
      try simp only
      rw [hk x (by simp), evo_congr fun y hy => hk y (by subst hy; simp), evo_congr (x := hi) fun y hy => hk y (by subst hy; simp)]
  case fieldAddr T x f => rw [hk x (by simp)]
  case indexAddr T x i => rw [hk x (by simp), hk i (by simp)]
  case index T x i => rw [hk x (by simp), hk i (by simp)]
  case extract x i => rw [hk x (by simp)]
  case call c =>
    cases hc : c.callee with
    | builtin b =>
      simp only
      have ha : ∀ x ∈ c.args.toList, ev fr' x = ev fr x := fun x hx => hk x (by simp [Call.operands, hc]; simpa using hx)
      unfold iBuiltin
      split
      · rename_i x T hal _; rw [ha x (by rw [hal]; simp)]
      · rename_i s x T T' hal _; rw [ha s (by rw [hal]; simp), ha x (by rw [hal]; simp)]
      · rename_i _ x y hal; rw [ha x (by rw [hal]; simp), ha y (by rw [hal]; simp)]
      · rename_i _ x y hal; rw [ha x (by rw [hal]; simp), ha y (by rw [hal]; simp)]
      · rfl
    | value f =>
      simp only
      rw [hk f (by simp [Call.operands, hc]), evl_congr fun x hx => hk x (by simp [Call.operands, hc]; exact .inr (by simpa using hx))]
    | invoke r n => rfl

theorem igop_congr {P : Program} {all : List Oper} {fr fr' : Fr} {m m' : Mem} {nx : Nat} {o : Oper} {r : OH} {x : Eff × List Prop} (hf : ∀ t ∈ looksO all o, lk t fr' = lk t fr) (hm : MM m m') (h : igop P all o r fr m nx = some x) : igop P all o r fr' m' nx = some x := by
  have hk : ∀ x ∈ o.op.operands.toList, ev fr' x = ev fr x := fun x hx => ev_congr fun t ht => hf t (by
    unfold looksO
    refine List.mem_append.2 (.inl (List.mem_filterMap.2 ⟨x, hx, ?_⟩))
    rw [ht])
  have hi : ∀ e, iop P fr m nx r.h o = some e → iop P fr' m' nx r.h o = some e := fun e he => by
    rw [iop_congr hk]; exact iop_mono hm he
  unfold igop at h ⊢
  cases hg : o.guard with
  | none =>
    rw [hg] at h
    simp only at h ⊢
    cases hx : iop P fr m nx r.h o with
    | none => simp [hx] at h
    | some e => rw [hx] at h; rw [hi e hx]; exact h
  | some p =>
    obtain ⟨j, want⟩ := p
    rw [hg] at h
    simp only at h ⊢
    have hgs : (gslot all j).bind (fun t => lk t fr') = (gslot all j).bind (fun t => lk t fr) := by
      cases hs : gslot all j with
      | none => rfl
      | some t =>
        simp only [Option.bind_some]
        exact hf t (by unfold looksO; simp [hg, hs])
    rw [hgs]
    split at h
    · rename_i tv b htv hb
      cases hcond : (tv == want) with
      | false => rw [hcond] at h; exact h
      | true =>
        rw [hcond] at h
        simp only [cond_true] at h ⊢
        cases hx : iop P fr m nx r.h o with
        | none => simp [hx] at h
        | some e => rw [hx] at h; rw [hi e hx]; exact h
    · exact h
    · cases h

end Go.Ide
