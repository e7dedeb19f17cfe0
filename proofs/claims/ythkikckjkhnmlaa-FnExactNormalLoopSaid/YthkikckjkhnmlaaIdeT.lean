/-
  Regions in their order; pieces of code.
-/
import Derived.Test.YthkikckjkhnmlaaIdeS
namespace Go.Ide

/-- What is told of an operation: what its guard's test gives; what it needs besides. -/
structure OH where
  tv : Option Bool
  h : Hint

def dOK (N : Nat) : Option Tmp → Bool
  | some t => Nat.blt t N
  | none => true

def St.app (st : St) (d : Option Tmp) (e : Eff) : St := (st.setMem (e.upd ++ e.new ++ st.mem) (st.nx + e.new.length)).put d e.val

def gslot (all : List Oper) (j : Nat) : Option Tmp := (all[j]?).bind (·.dst)

def freshB (m : Mem) : Mem → Bool
  | [] => true
  | p :: l => (match lk p.1 m with
    | some _ => false
    | none => true) && freshB m l

theorem freshB_spec {m : Mem} : ∀ {l : Mem}, freshB m l = true → Fresh m l
  | [], _, p, hp => by simp at hp
  | q :: l, h, p, hp => by
    simp only [freshB, Bool.and_eq_true] at h
    rcases List.mem_cons.1 hp with e | hp
    · subst e
      cases hx : lk p.1 m with
      | none => rfl
      | some c => rw [hx] at h; cases h.1
    · exact freshB_spec h.2 p hp

/-- One operation, with its guard: whether it is carried out; its effect; its conditions. -/
def igop (P : Program) (all : List Oper) (o : Oper) (r : OH) (fr : Fr) (m : Mem) (nx : Nat) : Option (Eff × List Prop) :=
  match o.guard with
  | none => (match iop P fr m nx r.h o with
    | some e => some (e, e.cond)
    | none => none)
  | some (j, want) => (match r.tv, (gslot all j).bind (fun t => lk t fr) with
    | some tv, some (.one (.dat .bool b)) => bif tv == want then
        (match iop P fr m nx r.h o with
        | some e => some (e, (b = tv) :: e.cond)
        | none => none) else some (⟨.und, [], [], []⟩, [b = tv])
    | none, some .und => some (⟨.und, [], [], []⟩, [])
    | _, _ => none)

/-- One operation, with its guard. -/
def istep (P : Program) (N : Nat) (all : List Oper) (o : Oper) (r : OH) (st : St) : Option (St × List Prop) :=
  match igop P all o r st.fr st.mem st.nx with
  | some (e, cs) => bif dOK N o.dst && freshB st.mem e.new then some (st.app o.dst e, cs) else none
  | none => none

def ireg (P : Program) (N : Nat) (all : List Oper) : List Oper → List OH → St → Option (St × List Prop)
  | [], _, st => some (st, [])
  | o :: os, r :: rs, st => (match istep P N all o r st with
    | some (st1, c1) => (match ireg P N all os rs st1 with
      | some (st2, c2) => some (st2, c1 ++ c2)
      | none => none)
    | none => none)
  | _ :: _, [], _ => none

section
variable {cx : Cx} {g : GM} {st : St} {a : Act} {w : World}

theorem dOK_spec {N : Nat} {d : Option Tmp} (h : dOK N d = true) : ∀ t, d = some t → t < N := by
  intro t e
  subst e
  exact Nat.lt_of_succ_le (by simpa [dOK, Nat.blt] using h)

theorem Did.sim {e : Eff} {val : Value} {w' : World} (h : Did cx st a e val w') {d : Option Tmp} (hd : ∀ t, d = some t → t < cx.N) : ∃ g', Sim cx g' (st.app d e) (a.put d val) w' := by
  obtain ⟨g', h1, h2⟩ := h
  exact ⟨g', h1.put h2 d hd⟩

theorem guard_val {all : List Oper} {j : Nat} {b : Bool} (h : Sim cx g st a w) (hg : (gslot all j).bind (fun t => lk t st.fr) = some (.one (.dat .bool b))) : yielded all.toArray a.tmps j = some b := by
  unfold gslot at hg
  unfold yielded
  cases ho : all[j]? with
  | none => simp [ho] at hg
  | some o =>
    rw [ho] at hg
    simp only [Option.bind_some] at hg
    cases hd : o.dst with
    | none => simp [hd] at hg
    | some t =>
      rw [hd] at hg
      simp only [Option.bind_some] at hg
      have hv := h.fr t _ hg
      have hb : a.tmps.getD t undef = .bool b := dat_bool (g := g) (m := st.mem) (S := cx.safe g st.mem w) (w := w) hv
      have hlt : t < a.tmps.size := by
        rcases Nat.lt_or_ge t a.tmps.size with hlt | hge
        · exact hlt
        · rw [Array.getD_eq_getD_getElem?, Array.getElem?_eq_none hge] at hb; cases hb
      simp only [List.getElem?_toArray, ho, Option.bind_some, hd]
      rw [Array.getD_eq_getD_getElem?, Array.getElem?_eq_getElem hlt] at hb
      rw [Array.getElem?_eq_getElem hlt]
      simp only [Option.getD_some] at hb
      rw [hb]

theorem guard_und {all : List Oper} {j : Nat} (h : Sim cx g st a w) (hg : (gslot all j).bind (fun t => lk t st.fr) = some .und) : yielded all.toArray a.tmps j = none := by
  unfold gslot at hg
  unfold yielded
  cases ho : all[j]? with
  | none => simp [ho] at hg
  | some o =>
    rw [ho] at hg
    simp only [Option.bind_some] at hg
    cases hd : o.dst with
    | none => simp [hd] at hg
    | some t =>
      rw [hd] at hg
      simp only [Option.bind_some] at hg
      have hv : a.tmps.getD t undef = undef := h.fr t _ hg
      simp only [List.getElem?_toArray, ho, Option.bind_some, hd]
      rcases Nat.lt_or_ge t a.tmps.size with hlt | hge
      · rw [Array.getD_eq_getD_getElem?, Array.getElem?_eq_getElem hlt] at hv
        rw [Array.getElem?_eq_getElem hlt]
        simp only [Option.getD_some] at hv
        rw [hv]
        rfl
      · rw [Array.getElem?_eq_none hge]

theorem igop_sound {all : List Oper} {o : Oper} {r : OH} {e : Eff} {cs : List Prop} {Q : Exit → Act → World → Prop} {K : Act → World → Prop} (h : Sim cx g st a w) (he : igop cx.P all o r st.fr st.mem st.nx = some (e, cs)) (hw : Fresh st.mem e.new) (hd : dOK cx.N o.dst = true) (hc : AllP cs)
    (hk : ∀ g' a' w', Sim cx g' (st.app o.dst e) a' w' → K a' w') : if Region.wanted o (yielded all.toArray a.tmps) then o.wp cx.P a w K Q else K (a.put o.dst undef) w := by
  have hd := dOK_spec hd
  unfold igop at he
  split at he
  · rename_i hg
    split at he
    · rename_i e' hi
      injection he with he
      injection he with e1 e2
      subst e1
      subst e2
      simp only [Region.wanted, hg, if_true]
      refine (iop_sound h hw hi hc).wp fun val w' hdid => ?_
      obtain ⟨g', hs⟩ := hdid.sim hd
      exact hk g' _ _ hs
    · cases he
  · rename_i j want hg
    split at he
    · rename_i tv b htv hb
      have hy := guard_val h hb
      cases hcond : (tv == want) with
      | true =>
        rw [hcond] at he
        simp only [cond_true] at he
        split at he
        · rename_i e' hi
          injection he with he
          injection he with e1 e2
          subst e1
          subst e2
          have hbt : b = tv := hc.1
          have hwt : Region.wanted o (yielded all.toArray a.tmps) = true := by
            simp only [Region.wanted, hg, hy, hbt]
            simpa using hcond
          rw [if_pos hwt]
          refine (iop_sound h hw hi hc.2).wp fun val w' hdid => ?_
          obtain ⟨g', hs⟩ := hdid.sim hd
          exact hk g' _ _ hs
        · cases he
      | false =>
        rw [hcond] at he
        simp only [cond_false] at he
        injection he with he
        injection he with e1 e2
        subst e1
        subst e2
        have hbt : b = tv := hc.1
        have hwt : ¬ Region.wanted o (yielded all.toArray a.tmps) = true := by
          simp only [Region.wanted, hg, hy, hbt]
          simpa using hcond
        rw [if_neg hwt]
        exact hk g _ _ (h.put (v := .und) rfl o.dst hd)
    · rename_i htv hb
      injection he with he
      injection he with e1 e2
      subst e1
      subst e2
      have hwt : ¬ Region.wanted o (yielded all.toArray a.tmps) = true := by
        simp [Region.wanted, hg, guard_und h hb]
      rw [if_neg hwt]
      exact hk g _ _ (h.put (v := .und) rfl o.dst hd)
    · cases he

theorem istep_sound {all : List Oper} {o : Oper} {r : OH} {st' : St} {cs : List Prop} {Q : Exit → Act → World → Prop} {K : Act → World → Prop} (h : Sim cx g st a w) (he : istep cx.P cx.N all o r st = some (st', cs)) (hc : AllP cs)
    (hk : ∀ g' a' w', Sim cx g' st' a' w' → K a' w') : if Region.wanted o (yielded all.toArray a.tmps) then o.wp cx.P a w K Q else K (a.put o.dst undef) w := by
  unfold istep at he
  split at he
  · rename_i e cs' hi
    cases hd : (dOK cx.N o.dst && freshB st.mem e.new) with
    | false => rw [hd] at he; cases he
    | true =>
      rw [hd] at he
      simp only [cond_true] at he
      simp only [Bool.and_eq_true] at hd
      injection he with he
      injection he with e1 e2
      subst e1
      subst e2
      exact igop_sound h hi (freshB_spec hd.2) hd.1 hc hk
  · cases he

theorem ireg_sound {all : List Oper} {Q : Exit → Act → World → Prop} : ∀ {os : List Oper} {rs : List OH} {st st' : St} {cs : List Prop} {g : GM} {a : Act} {w : World},
    Sim cx g st a w → ireg cx.P cx.N all os rs st = some (st', cs) → AllP cs → (∀ g' a' w', Sim cx g' st' a' w' → Q .normal a' w') → wpList cx.P all.toArray Q os a w
  | [], rs, st, st', cs, g, a, w, h, he, hc, hk => by
    have he : some (st, []) = some (st', cs) := by cases rs <;> exact he
    injection he with he
    injection he with e1 e2
    subst e1
    exact hk g a w h
  | o :: os, [], st, st', cs, g, a, w, h, he, hc, hk => by cases he
  | o :: os, r :: rs, st, st', cs, g, a, w, h, he, hc, hk => by
    simp only [ireg] at he
    split at he
    · rename_i st1 c1 h1
      split at he
      · rename_i st2 c2 h2
        injection he with he
        injection he with e1 e2
        subst e1
        subst e2
        obtain ⟨hc1, hc2⟩ := hc.append
        refine wpList_step fun K hK => ?_
        exact istep_sound h h1 hc1 fun g' a' w' hs => hK a' w' (ireg_sound hs h2 hc2 hk)
      · cases he
    · cases he

/-- A piece of code, run from a state: how it may end. -/
def HT (cx : Cx) (st : St) (c : Code) (Q : Exit → St → Prop) : Prop :=
  ∀ g a w, Sim cx g st a w → c.wp cx.P (fun e a' w' => ∃ st' g', Q e st' ∧ Sim cx g' st' a' w') a w

variable {Q Q' : Exit → St → Prop} {c x y : Code}

theorem HT.mono (h : HT cx st c Q) (hq : ∀ e s, Q e s → Q' e s) : HT cx st c Q' :=
  fun g a w hs => wp_mono (h g a w hs) fun e _ _ ⟨s, g', h1, h2⟩ => ⟨s, g', hq e s h1, h2⟩

theorem HT.region {id : Nat} {ops : List Oper} {rs : List OH} {st' : St} {cs : List Prop} (he : ireg cx.P cx.N ops ops rs st = some (st', cs)) (hc : AllP cs) (hq : Q .normal st') : HT cx st (.region id ops.toArray false) Q :=
  fun g a w hs => wp_region_lit (ireg_sound hs he hc fun g' _ _ hs' => ⟨st', g', hq, hs'⟩)

theorem HT.skip (hq : Q .normal st) : HT cx st .skip Q := fun g _ _ hs => wp_skip ⟨st, g, hq, hs⟩
theorem HT.exit {id : Nat} (hq : Q (.exit id) st) : HT cx st (.exit id) Q := fun g _ _ hs => wp_exit ⟨st, g, hq, hs⟩
theorem HT.ret (hq : Q .ret st) : HT cx st .ret Q := fun g _ _ hs => wp_ret ⟨st, g, hq, hs⟩

/-- What follows. -/
def thenQ (cx : Cx) (y : Code) (Q : Exit → St → Prop) : Exit → St → Prop
  | .normal, s => HT cx s y Q
  | e, s => Q e s

theorem HT.seq (h : HT cx st x (thenQ cx y Q)) : HT cx st (.seq x y) Q := fun g a w hs => by
  refine wp_seq (wp_mono (h g a w hs) fun e a' w' ⟨s, g', h1, h2⟩ => ?_)
  cases e with
  | normal => exact h1 g' a' w' h2
  | _ => exact ⟨s, g', h1, h2⟩

theorem HT.cond {o : Operand} {b : Bool} (he : ev st.fr o = some (.one (.dat .bool b))) (h1 : b = true → HT cx st x Q) (h2 : b = false → HT cx st y Q) : HT cx st (.cond o x y) Q := fun g a w hs =>
  wp_cond_split (dat_bool (g := g) (m := st.mem) (S := cx.safe g st.mem w) (w := w) (ev_VR hs he)) (fun e => h1 e g a w hs) (fun e => h2 e g a w hs)

def blockQ (id : Nat) (Q : Exit → St → Prop) : Exit → St → Prop
  | .exit id', s => if id' = id then Q .normal s else Q (.exit id') s
  | e, s => Q e s

theorem HT.block {id : Nat} (h : HT cx st c (blockQ id Q)) : HT cx st (.block id c) Q := fun g a w hs => by
  refine wp_block (wp_mono (h g a w hs) fun e a' w' ⟨s, g', h1, h2⟩ => ?_)
  cases e with
  | exit id' =>
    simp only [Exit.inBlock, blockQ] at h1 ⊢
    split
    · rename_i e; rw [if_pos e] at h1; exact ⟨s, g', h1, h2⟩
    · rename_i e; rw [if_neg e] at h1; exact ⟨s, g', h1, h2⟩
  | _ => exact ⟨s, g', h1, h2⟩

def loopQ (J : St → Prop) (Q : Exit → St → Prop) : Exit → St → Prop
  | .normal, s => J s
  | e, s => Q e s

/-- A loop: states s of which some number of rounds is told. -/
theorem HT.loop {α : Type} {I : Nat → α → Prop} {S : α → St} {n : Nat} {s : α} (h0 : I n s) (hz : ∀ s, ¬ I 0 s)
    (round : ∀ n s, I (n + 1) s → HT cx (S s) c (loopQ (fun st' => ∃ s', st' = S s' ∧ I n s') Q)) : HT cx (S s) (.loop c) Q := fun g a w hs => by
  let J : Nat → Act → World → Prop := fun n a w => ∃ s g, I n s ∧ Sim cx g (S s) a w
  have hex : ∀ a w, (∃ n, J n a w) → ∃ n, J n a w ∧ ∀ k, J k a w → n ≤ k := by
    intro a w ⟨n, hn⟩
    induction n using Nat.strongRecOn with
    | _ n ih =>
      by_cases h : ∃ k, k < n ∧ J k a w
      · obtain ⟨k, hk, hj⟩ := h; exact ih k hk hj
      · exact ⟨n, hn, fun k hk => Nat.le_of_not_lt fun hlt => h ⟨k, hlt, hk⟩⟩
  let μ : Act → World → Nat := fun a w => @dite Nat (∃ n, J n a w) (Classical.propDecidable _) (fun h => Classical.choose (hex a w h)) (fun _ => 0)
  have hμ : ∀ a w n, J n a w → J (μ a w) a w ∧ μ a w ≤ n := by
    intro a w n hn
    have hx : ∃ n, J n a w := ⟨n, hn⟩
    have e : μ a w = Classical.choose (hex a w hx) := dif_pos hx
    have := Classical.choose_spec (hex a w hx)
    rw [e]
    exact ⟨this.1, this.2 n hn⟩
  refine wp_loop (fun a w => ∃ n, J n a w) μ ⟨n, s, g, h0, hs⟩ fun a w ⟨n, hn⟩ => ?_
  obtain ⟨⟨s, g, hI, hs⟩, _⟩ := hμ a w n hn
  cases hm : μ a w with
  | zero => rw [hm] at hI; exact absurd hI (hz s)
  | succ k =>
    rw [hm] at hI
    refine wp_mono (round k s hI g a w hs) fun e a' w' ⟨st', g', h1, h2⟩ => ?_
    cases e with
    | normal =>
      obtain ⟨s', e, hI'⟩ := h1
      subst e
      have := hμ a' w' k ⟨s', g', hI', h2⟩
      exact ⟨⟨k, s', g', hI', h2⟩, by omega⟩
    | _ => exact ⟨st', g', h1, h2⟩

end
end Go.Ide
