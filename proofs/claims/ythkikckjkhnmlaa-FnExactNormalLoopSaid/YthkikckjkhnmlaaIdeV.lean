/-
  A function: from its body's run to its contract.
-/
import Derived.Test.YthkikckjkhnmlaaIdeU
namespace Go.Ide

def toIV (t : Ty) (cs : List ICell) : IVal := if t.isSt then .agg cs else (match cs with | [c] => .one c | _ => .junk)

def argSt : List Arg → Nat → Nat → Fr × List Chunk
  | [], _, _ => ([], [])
  | .imm t x :: r, i, n => ((i, toIV t (expl t x)) :: (argSt r (i + 1) n).1, (argSt r (i + 1) n).2)
  | .pimm t x :: r, i, n => ((i, .one (.ip t x 0)) :: (argSt r (i + 1) n).1, (argSt r (i + 1) n).2)
  | .fn f :: r, i, n => ((i, .one (.fn f)) :: (argSt r (i + 1) n).1, (argSt r (i + 1) n).2)
  | .own t x :: r, i, n =>
    ((i, toIV t (explF t x n).1) :: (argSt r (i + 1) (n + (explF t x n).2.length)).1, (explF t x n).2 ++ (argSt r (i + 1) (n + (explF t x n).2.length)).2)

/-- The state in which a function's body begins. -/
def st0 (args : List Arg) : St := ⟨(argSt args 0 0).1, keysFrom 0 (argSt args 0 0).2, (argSt args 0 0).2.length⟩

def resI (P : Program) (m : Mem) (fr : Fr) : List ResultVar → Option (List IVal)
  | [] => some []
  | .tmp t :: r => match lk t fr, resI P m fr r with
    | some v, some l => some (v :: l)
    | _, _ => none
  | .cell t T :: r => match lk t fr, resI P m fr r with
    | some (.one (.ptr c off)), some l => (match iLoad P m T (.one (.ptr c off)) with
      | some e => some (e.val :: l)
      | none => none)
    | _, _ => none

/-- Results as data. -/
def retI (m : Mem) : List (Bool × Ty) → List IVal → Option (List RV × List Nat)
  | [], [] => some ([], [])
  | (fresh, t) :: ts, v :: vs => match retI m ts vs with
    | some (rs, ks) => if fresh then (match vdat m t v, ownKeys m t v.cells with
        | some x, some (k, []) => some (⟨true, t, x⟩ :: rs, k ++ ks)
        | _, _ => none) else (match vdat [] t v with
        | some x => some (⟨false, t, x⟩ :: rs, ks)
        | none => none)
    | none => none
  | _, _ => none

/-- What an argument of the call's own holds at the end. -/
def ownOut (m : Mem) : (t : Ty) → t.D → Nat → Option (t.D × Nat × List Prop)
  | .pair a b, x, n => match ownOut m a x.1 n with
    | some (y, n1, c1) => (match ownOut m b x.2 n1 with
      | some (z, n2, c2) => some ((y, z), n2, c1 ++ c2)
      | none => none)
    | none => none
  | .st t, x, n => ownOut m t x n
  | .sl t, xs, n => match lk n m with
    | some (.seq t' ys) => if h : t' = t then some (castD (congrArg Ty.sl h) ys, n + 1, [List.length ys = List.length xs]) else none
    | _ => none
  | .int _, x, n => some (x, n, [])
  | .flt _, x, n => some (x, n, [])
  | .bool, x, n => some (x, n, [])
  | .str, x, n => some (x, n, [])

def ownOuts (m : Mem) : List Arg → Nat → Option (List TD × List Prop)
  | [], _ => some ([], [])
  | .own t x :: r, n => match ownOut m t x n with
    | some (y, n1, c1) => (match ownOuts m r n1 with
      | some (l, c2) => some (⟨t, y⟩ :: l, c1 ++ c2)
      | none => none)
    | none => none
  | .imm _ _ :: r, n => ownOuts m r n
  | .pimm _ _ :: r, n => ownOuts m r n
  | .fn _ :: r, n => ownOuts m r n

/-- The end of a function. -/
def RetOK (P : Program) (fn : Func) (args : List Arg) (ts : List (Bool × Ty)) (rs : List RV) (outs : List TD) (st : St) : Prop :=
  ∃ vs ks cs, resI P st.mem st.fr fn.results.toList = some vs ∧ retI st.mem ts vs = some (rs, ks) ∧ nodupB ks = true ∧ ((argSt args 0 0).2 = [] ∨ ks = []) ∧ ownOuts st.mem args 0 = some (outs, cs) ∧ AllP cs

def retQ (P : Program) (fn : Func) (args : List Arg) (ts : List (Bool × Ty)) (rs : List RV) (outs : List TD) : Exit → St → Prop
  | .normal, st => RetOK P fn args ts rs outs st
  | .ret, st => RetOK P fn args ts rs outs st
  | _, _ => False

section
variable {S : Nat → Prop} {w : World}

theorem toIV_VR {g : GM} {m : Mem} {t : Ty} {cs : List Value} {ics : List ICell} {v : Value} (h : ValOf t cs v) (ha : All2 (CR g m S w) ics cs) : VR g m S w (toIV t ics) v := by
  unfold ValOf at h
  unfold toIV
  split
  · rename_i hst
    rw [if_pos hst] at h
    exact ⟨cs, h, ha⟩
  · rename_i hst
    rw [if_neg hst] at h
    subst h
    cases ics with
    | nil => exact ha.elim
    | cons c r =>
      cases r with
      | nil => exact ha.1
      | cons => exact ha.2.elim

/-- Where the arguments of the call's own lie. -/
def ArgsA (S : Nat → Prop) (w : World) : List Arg → List Value → List (List Nat) → List (Option Nat) → Prop
  | [], [], [], A => A = []
  | .own t x :: as, v :: vs, F :: Fs, A => ∃ A1 A2 cs, A = A1 ++ A2 ∧ ValOf t cs v ∧ OwnA S w t cs x A1 ∧ A1.filterMap id = F ∧ ArgsA S w as vs Fs A2
  | .imm _ _ :: as, _ :: vs, _ :: Fs, A => ArgsA S w as vs Fs A
  | .pimm _ _ :: as, _ :: vs, _ :: Fs, A => ArgsA S w as vs Fs A
  | .fn _ :: as, _ :: vs, _ :: Fs, A => ArgsA S w as vs Fs A
  | _, _, _, _ => False

theorem argSt_rel {S2 : Nat → Prop} (hS : ∀ b, S b → S2 b) : ∀ {args : List Arg} {vals : List Value} {Fs : List (List Nat)} (i n : Nat), ArgsR S w args vals Fs → ∃ asg : List (Option Nat), asg.length = (argSt args i n).2.length ∧ asg.filterMap id = Fs.flatten ∧ ArgsA S2 w args vals Fs asg ∧
    ∀ (g' : GM) (m' : Mem), (∀ j ch, (argSt args i n).2[j]? = some ch → lk (n + j) m' = some ch) → (∀ j o, asg[j]? = some o → g' (n + j) = o) →
      (∀ t v, lk t (argSt args i n).1 = some v → i ≤ t ∧ ∃ u, vals[t - i]? = some u ∧ VR g' m' S2 w v u) ∧ Laid g' m' S2 w n (argSt args i n).2 asg Fs.flatten
  | [], [], [], i, n, _ => ⟨[], rfl, rfl, rfl, fun g' m' _ _ => ⟨fun t v h => by simp [argSt, lk_nil] at h, rfl, rfl, fun j ch hj => by simp [argSt] at hj⟩⟩
  | arg :: args, v :: vals, F :: Fs, i, n, ⟨h1, h2⟩ => by
    -- an argument that brings no chunk
    have plain : ∀ (iv : IVal), F = [] → argSt (arg :: args) i n = ((i, iv) :: (argSt args (i + 1) n).1, (argSt args (i + 1) n).2) → (∀ (g' : GM) (m' : Mem), VR g' m' S2 w iv v) → (∀ A, ArgsA S2 w args vals Fs A → ArgsA S2 w (arg :: args) (v :: vals) (F :: Fs) A) →
        ∃ asg : List (Option Nat), asg.length = (argSt (arg :: args) i n).2.length ∧ asg.filterMap id = (F :: Fs).flatten ∧ ArgsA S2 w (arg :: args) (v :: vals) (F :: Fs) asg ∧
        ∀ (g' : GM) (m' : Mem), (∀ j ch, (argSt (arg :: args) i n).2[j]? = some ch → lk (n + j) m' = some ch) → (∀ j o, asg[j]? = some o → g' (n + j) = o) →
          (∀ t u, lk t (argSt (arg :: args) i n).1 = some u → i ≤ t ∧ ∃ x, (v :: vals)[t - i]? = some x ∧ VR g' m' S2 w u x) ∧ Laid g' m' S2 w n (argSt (arg :: args) i n).2 asg (F :: Fs).flatten := by
      intro iv hF he hv hA
      obtain ⟨asg, k1, k2, kA, k3⟩ := argSt_rel hS (i + 1) n h2
      refine ⟨asg, by rw [he]; exact k1, by rw [hF]; simpa using k2, hA asg kA, fun g' m' hm hg => ?_⟩
      rw [he] at hm ⊢
      obtain ⟨q1, q2⟩ := k3 g' m' hm hg
      refine ⟨fun t u hl => ?_, by rw [hF]; simpa using q2⟩
      simp only at hl
      rw [lk_cons] at hl
      split at hl
      · rename_i e
        subst e
        injection hl with hl
        subst hl
        exact ⟨Nat.le_refl _, v, by simp, hv g' m'⟩
      · obtain ⟨a1, x, a2, a3⟩ := q1 t u hl
        refine ⟨by omega, x, ?_, a3⟩
        rw [show t - i = (t - (i + 1)) + 1 from by omega]
        simpa using a2
    cases arg with
    | imm t x =>
      obtain ⟨hF, cs, hv, hr⟩ := h1
      exact plain _ hF rfl (fun g' m' => toIV_VR hv (expl_rel t (Rep.keep (fun b hb => ⟨hS b hb, rfl⟩) t cs x hr))) fun _ h => h
    | pimm t x =>
      obtain ⟨hF, ad, es, e, hs, hcell, hr⟩ := h1
      exact plain _ hF rfl (fun g' m' => ⟨ad, es, by rw [e]; simp [Addr.add], hS _ hs, hcell, Rep.keep (fun b hb => ⟨hS b hb, rfl⟩) t es x hr⟩) fun _ h => h
    | fn f =>
      obtain ⟨hF, e⟩ := h1
      exact plain _ hF rfl (fun g' m' => e) fun _ h => h
    | own t x =>
      obtain ⟨cs, hv, ho⟩ := h1
      have ho := OwnRep.mono hS t ho
      obtain ⟨a1, l1, b1, w1, k1⟩ := explF_rel t n ho
      obtain ⟨a2, l2, b2, w2, k2⟩ := argSt_rel hS (i + 1) (n + (explF t x n).2.length) h2
      refine ⟨a1 ++ a2, by simp [argSt, l1, l2], by simp [List.filterMap_append, b1, b2], ⟨a1, a2, cs, rfl, hv, w1, b1, w2⟩, fun g' m' hm hg => ?_⟩
      obtain ⟨p1, q1⟩ := k1 g' m' (fun j ch hj => hm j ch (by
          simp only [argSt]
          rw [List.getElem?_append_left (List.getElem?_eq_some_iff.1 hj).1]; exact hj)) (fun j o hj => hg j o (by
          rw [List.getElem?_append_left (List.getElem?_eq_some_iff.1 hj).1]; exact hj))
      obtain ⟨p2, q2⟩ := k2 g' m' (fun j ch hj => by
          rw [Nat.add_assoc]
          refine hm _ ch ?_
          simp only [argSt]
          rw [List.getElem?_append_right (by omega)]
          simpa using hj) (fun j o hj => by
          rw [Nat.add_assoc]
          refine hg _ o ?_
          rw [List.getElem?_append_right (by omega), l1]
          simpa using hj)
      refine ⟨fun t' u hl => ?_, by simpa [argSt] using q1.app q2⟩
      simp only [argSt] at hl
      rw [lk_cons] at hl
      split at hl
      · rename_i e
        subst e
        injection hl with hl
        subst hl
        exact ⟨Nat.le_refl _, v, by simp, toIV_VR hv p1⟩
      · obtain ⟨a1, x, a2, a3⟩ := p2 t' u hl
        refine ⟨by omega, x, ?_, a3⟩
        rw [show t' - i = (t' - (i + 1)) + 1 from by omega]
        simpa using a2
  | [], [], _ :: _, _, _, h => h.elim
  | [], _ :: _, _, _, _, h => h.elim
  | _ :: _, [], _, _, _, h => h.elim
  | _ :: _, _ :: _, [], _, _, h => h.elim

end

section
variable {cx : Cx} {g : GM} {st : St} {a : Act} {w : World}

def resS (tmps : Array Value) : ResultVar → Sem Value
  | .tmp t => pure (tmps.getD t undef)
  | .cell x t => do loadVar t (← asAddr (tmps.getD x undef))

theorem resI_run (h : Sim cx g st a w) : ∀ {rl : List ResultVar} {vs : List IVal}, resI cx.P st.mem st.fr rl = some vs →
    ∃ vals : List Value, (rl.mapM (resS a.tmps)).run cx.P w = .ok vals w ∧ All2 (VR g st.mem (cx.safe g st.mem w) w) vs vals
  | [], vs, he => by simp only [resI] at he; injection he with he; subst he; exact ⟨[], rfl, trivial⟩
  | .tmp t :: rl, vs, he => by
    simp only [resI] at he
    split at he
    · rename_i v l hv hl
      injection he with he
      subst he
      obtain ⟨vals, h1, h2⟩ := resI_run h hl
      exact ⟨a.tmps.getD t undef :: vals, by simp [List.mapM_cons, resS, h1], h.fr t v hv, h2⟩
    · cases he
  | .cell t T :: rl, vs, he => by
    simp only [resI] at he
    split at he
    · rename_i c off l hv hl
      split at he
      · rename_i e hld
        injection he with he
        subst he
        obtain ⟨vals, h1, h2⟩ := resI_run h hl
        have hv' := h.fr t _ hv
        have hcond : e.cond = [] := by
          unfold iLoad at hld
          split at hld
          · rename_i e1 _ _; cases e1
          · split at hld
            · split at hld
              · unfold pureE at hld; injection hld with hld; rw [← hld]
              · cases hld
            · cases hld
          · cases hld
        obtain ⟨_, _, r, h3, h4⟩ := iLoad_sound h.mem hld (by rw [hcond]; trivial) hv'
        obtain ⟨_, b, _, e1⟩ := hv'
        rw [e1] at h3
        simp only [Instr.loadAt, Instr.sureAddr, Sem.run_bind, Sem.run_pure, Result.andThen_ok] at h3
        exact ⟨r :: vals, by simp [List.mapM_cons, resS, e1, asAddr, h3, h1], h4, h2⟩
      · cases he
    · cases he

theorem vdat_own (hm : ChAll g st.mem (cx.safe g st.mem w) w) {t : Ty} {v : IVal} {x : t.D} {ks : List Nat} {u : Value} (hx : vdat st.mem t v = some x) (hk : ownKeys st.mem t v.cells = some (ks, [])) (hv : VR g st.mem (cx.safe g st.mem w) w v u) :
    ∃ cs, ∃ l : List (Nat × Nat), ValOf t cs u ∧ OwnRep (cx.safe g st.mem w) w t cs x (l.map Prod.snd) ∧ (l.map Prod.fst).Sublist ks ∧ ∀ p ∈ l, g p.1 = some p.2 ∧ ∃ t xs, lk p.1 st.mem = some (.seq t xs) := by
  have hcells : ∃ vcs, ValOf t vcs u ∧ All2 (CR g st.mem (cx.safe g st.mem w) w) v.cells vcs ∧ impl st.mem t v.cells = some (x, []) := by
    unfold vdat at hx
    split at hx
    · rename_i c hst
      split at hx
      · rename_i y hy
        injection hx with hx
        subst hx
        exact ⟨[u], by simp [ValOf, hst], ⟨hv, trivial⟩, hy⟩
      · cases hx
    · rename_i cs hst
      split at hx
      · rename_i y hy
        injection hx with hx
        subst hx
        obtain ⟨vs', e, hvs⟩ := hv
        exact ⟨vs', by simp [ValOf, hst, e], hvs, hy⟩
      · cases hx
    · cases hx
  obtain ⟨vcs, hval, hall, himp⟩ := hcells
  obtain ⟨v1, v2, l1, e1, o1, a1, q1, s1, p1⟩ := own_rel hm (fun _ h => h) t himp hk hall
  have : v2 = [] := by cases v2 with | nil => rfl | cons => exact a1.elim
  subst this
  rw [List.append_nil] at e1
  subst e1
  exact ⟨vcs, l1, hval, o1, s1, p1⟩

theorem retI_rel (h : Sim cx g st a w) : ∀ {ts : List (Bool × Ty)} {vs : List IVal} {vals : List Value} {rs : List RV} {ks : List Nat}, retI st.mem ts vs = some (rs, ks) → All2 (VR g st.mem (cx.safe g st.mem w) w) vs vals →
    ∃ l : List (Nat × Nat), RVsR (cx.safe g st.mem w) w rs vals (l.map Prod.snd) ∧ (l.map Prod.fst).Sublist ks ∧ ∀ p ∈ l, g p.1 = some p.2 ∧ ∃ t xs, lk p.1 st.mem = some (.seq t xs)
  | [], [], vals, rs, ks, he, hv => by
    simp only [retI] at he
    injection he with he
    injection he with e1 e2
    subst e1
    subst e2
    cases vals with
    | nil => exact ⟨[], rfl, by simp, by simp⟩
    | cons => exact hv.elim
  | (fresh, t) :: ts, v :: vs, [], rs, ks, he, hv => hv.elim
  | (fresh, t) :: ts, v :: vs, u :: vals, rs, ks, he, hv => by
    simp only [retI] at he
    split at he
    · rename_i rs1 ks1 h1
      obtain ⟨l, k1, k2, k3⟩ := retI_rel h h1 hv.2
      split at he
      · rename_i hf
        split at he
        · rename_i x k hx hk
          injection he with he
          injection he with e1 e2
          subst e1
          subst e2
          obtain ⟨cs, l1, q1, q2, q3, q4⟩ := vdat_own h.mem hx hk hv.1
          refine ⟨l1 ++ l, ⟨l1.map Prod.snd, l.map Prod.snd, by simp, ?_, k1⟩, by simpa using q3.append k2, fun p hp => ?_⟩
          · unfold RVR; rw [if_pos rfl]; exact ⟨cs, q1, q2⟩
          · rcases List.mem_append.1 hp with hp | hp
            · exact q4 p hp
            · exact k3 p hp
        · cases he
      · rename_i hf
        split at he
        · rename_i x hx
          injection he with he
          injection he with e1 e2
          subst e1
          subst e2
          obtain ⟨cs, q1, q2⟩ := vdat_rep (S2 := cx.safe g st.mem w) (fun _ h => h) ReadM.nil hx hv.1
          refine ⟨l, ⟨[], _, by simp, ?_, k1⟩, k2, k3⟩
          unfold RVR
          rw [if_neg (by simp)]
          exact ⟨rfl, cs, q1, q2⟩
        · cases he
    · cases he
  | [], _ :: _, _, _, _, he, _ => by simp [retI] at he
  | _ :: _, [], _, _, _, he, _ => by cases he

end

/-- What has become of an own argument. -/
theorem ownOut_rel {S S' : Nat → Prop} {w0 w : World} {g : GM} {m : Mem} (hm : ChAll g m S' w) (hk : ∀ b arr, blk w0 b arr → ∃ arr', blk w b arr' ∧ arr'.size = arr.size) : ∀ (t : Ty) {cs : List Value} {x y : t.D} {A : List (Option Nat)} {n n' : Nat} {cd : List Prop},
    OwnA S w0 t cs x A → ownOut m t x n = some (y, n', cd) → AllP cd → (∀ j o, A[j]? = some o → g (n + j) = o) → n' = n + A.length ∧ OwnA S' w t cs y A
  | .int k, cs, x, y, A, n, n', cd, ⟨hF, hr⟩, h, hc, h3 => by simp only [ownOut] at h; injection h with h; injection h with e1 h; injection h with e2 e3; subst e1; subst e2; subst hF; exact ⟨rfl, rfl, hr⟩
  | .flt k, cs, x, y, A, n, n', cd, ⟨hF, hr⟩, h, hc, h3 => by simp only [ownOut] at h; injection h with h; injection h with e1 h; injection h with e2 e3; subst e1; subst e2; subst hF; exact ⟨rfl, rfl, hr⟩
  | .bool, cs, x, y, A, n, n', cd, ⟨hF, hr⟩, h, hc, h3 => by simp only [ownOut] at h; injection h with h; injection h with e1 h; injection h with e2 e3; subst e1; subst e2; subst hF; exact ⟨rfl, rfl, hr⟩
  | .str, cs, x, y, A, n, n', cd, ⟨hF, hr⟩, h, hc, h3 => by simp only [ownOut] at h; injection h with h; injection h with e1 h; injection h with e2 e3; subst e1; subst e2; subst hF; exact ⟨rfl, rfl, hr⟩
  | .st t, cs, x, y, A, n, n', cd, ho, h, hc, h3 => ownOut_rel hm hk t (cs := cs) (x := x) (y := y) ho h hc h3
  | .pair a b, cs, x, y, A, n, n', cd, ⟨c1, c2, A1, A2, e1, e2, o1, o2⟩, h, hc, h3 => by
    subst e2
    simp only [ownOut] at h
    split at h
    · rename_i y1 n1 cd1 hy1
      split at h
      · rename_i y2 n2 cd2 hy2
        injection h with h
        injection h with k1 h
        injection h with k2 k3
        subst k1
        subst k2
        subst k3
        obtain ⟨hc1, hc2⟩ := hc.append
        obtain ⟨r1, r2⟩ := ownOut_rel hm hk a o1 hy1 hc1 (fun j o hj => h3 j o (by rw [List.getElem?_append_left (List.getElem?_eq_some_iff.1 hj).1]; exact hj))
        subst r1
        obtain ⟨r3, r4⟩ := ownOut_rel hm hk b o2 hy2 hc2 (fun j o hj => by
          rw [Nat.add_assoc]
          refine h3 _ o ?_
          rw [List.getElem?_append_right (by omega)]
          simpa using hj)
        exact ⟨by rw [r3, List.length_append]; omega, c1, c2, A1, A2, e1, rfl, r2, r4⟩
      · cases h
    · cases h
  | .sl t, cs, xs, y, A, n, n', cd, ho, h, hc, h3 => by
    simp only [ownOut] at h
    split at h
    · rename_i t' ys hl
      split at h
      · rename_i he
        subst he
        injection h with h
        injection h with k1 h
        injection h with k2 k3
        subst k1
        subst k2
        subst k3
        have hlen : List.length ys = List.length xs := hc.1
        have hch := hm n _ hl
        rcases ho with ⟨hF, hx, a, e⟩ | ⟨b, cap, arr, hF, e, q1, q2, q3, q4, q5, q6⟩
        · subst hF
          refine ⟨rfl, .inl ⟨rfl, ?_, a, e⟩⟩
          rw [hx] at hlen
          exact List.eq_nil_of_length_eq_zero hlen
        · subst hF
          have hg := h3 0 (some b) rfl
          rw [Nat.add_zero] at hg
          rw [hg] at hch
          obtain ⟨arr', r1, r2⟩ := hch
          obtain ⟨arr2, s1, s2⟩ := hk b arr q3
          have := s1.eq r1
          subst this
          refine ⟨rfl, .inr ⟨b, cap, arr2, rfl, ?_, ?_, q2, r1, by rw [s2]; exact q4, q5, r2⟩⟩
          · show cs = [.slice (some ⟨b, 0, none⟩) ys.length cap]
            rw [hlen]; exact e
          · show ys.length ≤ cap
            rw [hlen]; exact q1
      · cases h
    · cases h

theorem ownOuts_rel {S S' : Nat → Prop} {w0 w : World} {g : GM} {m : Mem} (hm : ChAll g m S' w) (hk : ∀ b arr, blk w0 b arr → ∃ arr', blk w b arr' ∧ arr'.size = arr.size) : ∀ {args : List Arg} {vals : List Value} {Fs : List (List Nat)} {A : List (Option Nat)} {n : Nat} {outs : List TD} {cd : List Prop},
    ArgsA S w0 args vals Fs A → ownOuts m args n = some (outs, cd) → AllP cd → (∀ j o, A[j]? = some o → g (n + j) = o) → OutsR S' w args vals Fs outs
  | [], [], [], A, n, outs, cd, _, h, _, _ => by
    simp only [ownOuts] at h; injection h with h; injection h with e1 e2; subst e1; trivial
  | .imm t x :: as, v :: vs, F :: Fs, A, n, outs, cd, ha, h, hc, h3 => ownOuts_rel hm hk (args := as) (vals := vs) (Fs := Fs) ha h hc h3
  | .pimm t x :: as, v :: vs, F :: Fs, A, n, outs, cd, ha, h, hc, h3 => ownOuts_rel hm hk (args := as) (vals := vs) (Fs := Fs) ha h hc h3
  | .fn f :: as, v :: vs, F :: Fs, A, n, outs, cd, ha, h, hc, h3 => ownOuts_rel hm hk (args := as) (vals := vs) (Fs := Fs) ha h hc h3
  | .own t x :: as, v :: vs, F :: Fs, A, n, outs, cd, ⟨A1, A2, cs, e1, hv, ho, hF, ha⟩, h, hc, h3 => by
    subst e1
    simp only [ownOuts] at h
    split at h
    · rename_i y n1 c1 hy
      split at h
      · rename_i l c2 hl
        injection h with h
        injection h with k1 k2
        subst k1
        subst k2
        obtain ⟨hc1, hc2⟩ := hc.append
        obtain ⟨r1, r2⟩ := ownOut_rel hm hk t ho hy hc1 (fun j o hj => h3 j o (by rw [List.getElem?_append_left (List.getElem?_eq_some_iff.1 hj).1]; exact hj))
        subst r1
        have := ownOuts_rel hm hk ha hl hc2 (fun j o hj => by
          rw [Nat.add_assoc]
          refine h3 _ o ?_
          rw [List.getElem?_append_right (by omega)]
          simpa using hj)
        exact ⟨⟨rfl, cs, hv, by rw [← hF]; exact OwnA.toRep t r2⟩, this⟩
      · cases h
    · cases h

theorem resOf_mk : ∀ (l : List Value), ResOf l (if h : l.toArray.size = 1 then l.toArray[0] else .tuple l.toArray)
  | [] => rfl
  | [_] => rfl
  | _ :: _ :: _ => rfl

/-- THE RULE: a function's contract from its body's run. -/
theorem CallOK.of_body {P : Program} {f : FuncId} {fn : Func} {c : Code} {args : List Arg} {ts : List (Bool × Ty)} {rs : List RV} {outs : List TD} (hf : P.funcs[f]? = some fn) (hb : fn.body = some c)
    (hname : (fn.name == "runtime.NumGoroutine") = false) (hn : args.length ≤ fn.ntmps)
    (h : ∀ cx : Cx, cx.P = P → cx.N = fn.ntmps → cx.own.map Prod.fst = List.range (argSt args 0 0).2.length → ((argSt args 0 0).2 = [] → cx.F = []) → HT cx (st0 args) c (retQ P fn args ts rs outs)) : CallOK P f args rs outs := by
  refine ⟨⟨fn, hf, hname, by rw [hb]; rfl⟩, fun w S vals Fs hS hFn hFl ha => calls_of_wp hf hb ?_⟩
  have hS2 : ∀ b, S b → (b < w.heap.size ∧ S b ∧ b ∉ Fs.flatten) := fun b hb => ⟨(hS b hb).1, hb, (hS b hb).2⟩
  obtain ⟨asg, l1, b1, hA, k1⟩ := argSt_rel (S2 := fun b => b < w.heap.size ∧ S b ∧ b ∉ Fs.flatten) hS2 0 0 ha
  let chs := (argSt args 0 0).2
  let g : GM := fun k => (asg[k]?).bind id
  have hgv : ∀ j o, asg[j]? = some o → g (0 + j) = o := fun j o hj => by
    show (asg[0 + j]?).bind id = o
    rw [Nat.zero_add, hj]; rfl
  have hmem : ∀ j ch, chs[j]? = some ch → lk (0 + j) (keysFrom 0 chs) = some ch := fun j ch hj => by
    rw [lk_keysFrom, if_pos (by omega)]; simpa using hj
  obtain ⟨hfr, hld⟩ := k1 g (keysFrom 0 chs) hmem hgv
  let cx : Cx := ⟨P, fn.ntmps, w, S, Fs.flatten, (List.range chs.length).map fun k => (k, g k)⟩
  have hasgF : ∀ j b, asg[j]? = some (some b) → b ∈ Fs.flatten := fun j b hj => by
    rw [← b1]; exact List.mem_filterMap.2 ⟨some b, List.mem_of_getElem? hj, rfl⟩
  have hlkc : ∀ k ch, lk k (keysFrom 0 chs) = some ch → chs[k]? = some ch := fun k ch hk => by
    rw [lk_keysFrom, if_pos (by omega)] at hk; simpa using hk
  have hlive : ∀ k ch b, lk k (keysFrom 0 chs) = some ch → g k = some b → b ∈ Fs.flatten ∧ asg[k]? = some (some b) := fun k ch b hk hg => by
    have hg : (asg[k]?).bind id = some b := hg
    cases hx : asg[k]? with
    | none => rw [hx] at hg; simp at hg
    | some o =>
      rw [hx] at hg
      have : o = some b := hg
      subst this
      exact ⟨hasgF k b hx, rfl⟩
  have hsafe : ∀ b, (b < w.heap.size ∧ S b ∧ b ∉ Fs.flatten) → cx.safe g (keysFrom 0 chs) w b := fun b ⟨h1, h2, h3⟩ => ⟨h1, fun _ => h2, fun ⟨k, ch, q1, q2, q3⟩ => h3 (hlive k ch b q1 q3).1⟩
  have hlen : args.length = vals.length := by
    have : ∀ {as : List Arg} {vs : List Value} {Fs : List (List Nat)}, ArgsR S w as vs Fs → as.length = vs.length := by
      intro as
      induction as with
      | nil => intro vs Fs h; cases vs <;> cases Fs <;> first | rfl | exact h.elim
      | cons a as ih =>
        intro vs Fs h
        cases vs with
        | nil => exact h.elim
        | cons v vs =>
          cases Fs with
          | nil => exact h.elim
          | cons F Fs => simp [ih h.2]
    exact this ha
  have hsim : Sim cx g (st0 args) { tmps := vals.toArray ++ Array.replicate (fn.ntmps - vals.toArray.size) undef, defers := [] } w := by
    refine ⟨rfl, ?_, fun t v hl => ?_, fun k ch hk => ?_, ?_, fun k ch b hk hn' hg => ?_, KeepF.refl _ _, fun p hp => ?_⟩
    · show (vals.toArray ++ Array.replicate (fn.ntmps - vals.toArray.size) undef).size = fn.ntmps
      simp; omega
    · obtain ⟨_, u, hu, hv⟩ := hfr t v hl
      rw [Nat.sub_zero] at hu
      have hu' := (List.getElem?_eq_some_iff.1 hu)
      have : (vals.toArray ++ Array.replicate (fn.ntmps - vals.toArray.size) undef).getD t undef = u := by
        rw [Array.getD_eq_getD_getElem?, Array.getElem?_append_left (by simpa using hu'.1)]
        simp [hu]
      show VR _ _ _ _ _ ((vals.toArray ++ Array.replicate (fn.ntmps - vals.toArray.size) undef).getD t undef)
      rw [this]
      exact VR.stays (Stays.mono hsafe) hv
    · obtain ⟨_, o, ho, hch⟩ := hld.chunk k ch (hlkc k ch hk)
      have := hgv k o ho
      rw [Nat.zero_add] at this
      rw [this]
      exact ChR.stays (Stays.mono hsafe) (fun _ _ => rfl) hch
    · intro k k' ch ch' b hk _ hk' _ hg hg'
      have h1 := (hlive k ch b hk hg).2
      have h2 := (hlive k' ch' b hk' hg').2
      exact filterMap_inj (by rw [b1]; exact hFn) h1 h2
    · exact .inr (hlive k ch b hk hg).1
    · obtain ⟨k, hk, e⟩ := List.mem_map.1 hp
      subst e
      refine ⟨rfl, ?_⟩
      have hk : k < chs.length := by simpa using hk
      show lk k (keysFrom 0 chs) ≠ none
      rw [lk_keysFrom, if_pos (by omega)]
      simp [hk]
  have hF0 : (argSt args 0 0).2 = [] → Fs.flatten = [] := fun e => by
    rw [e] at l1
    have : asg = [] := List.length_eq_zero_iff.1 l1
    rw [this] at b1
    exact b1.symm
  have hbody := h cx rfl rfl (by simp [cx, chs, List.map_map, Function.comp_def]) hF0 g _ w hsim
  refine wp_mono hbody fun e a' w' ⟨st', g', hq, hs'⟩ => ?_
  have ret : RetOK P fn args ts rs outs st' → a'.defers = [] ∧ ∃ v, (results fn a'.tmps).run P w' = .ok v w' ∧ ∃ v' F', Ending.returned v = .returned v' ∧ ResR (Behind S w w' F') w' rs v' F' ∧ F'.Nodup ∧ (∀ b, b ∈ F' → w.heap.size ≤ b ∧ b < w'.heap.size) ∧
      KeepF Fs.flatten w w' ∧ OutsR (Behind S w w' F') w' args vals Fs outs := by
    rintro ⟨vs, ks, cs, r1, r2, r3, r4, r5, r6⟩
    refine ⟨hs'.defers, ?_⟩
    obtain ⟨rvals, q1, q2⟩ := resI_run hs' r1
    obtain ⟨l, p1, p2, p3⟩ := retI_rel hs' r2 q2
    have hres : (results fn a'.tmps).run P w' = .ok (if h : rvals.toArray.size = 1 then rvals.toArray[0] else .tuple rvals.toArray) w' := by
      have e : results fn a'.tmps = (do
          let vs ← fn.results.mapM (resS a'.tmps)
          pure (if h : vs.size = 1 then vs[0] else .tuple vs)) := by
        have hm : (fun r : ResultVar => (match r with | .tmp t => (pure (a'.tmps.getD t undef) : Sem Value) | .cell x t => do loadVar t (← asAddr (a'.tmps.getD x undef)))) = resS a'.tmps := by
          funext r; cases r <;> rfl
        rw [← hm]
        rfl
      have q1 : (fn.results.toList.mapM (resS a'.tmps)).run P w' = .ok rvals w' := q1
      rw [e, Array.mapM_eq_mapM_toList]
      simp only [Sem.run_bind, Sem.run_map, q1, Result.andThen_ok, Sem.run_pure]
    have hblk : ∀ p, p ∈ l → p.2 < w'.heap.size ∧ Live g' st'.mem p.2 := fun p hp => by
      obtain ⟨a1, t, xs, a2⟩ := p3 p hp
      exact ⟨hs'.live_lt a2 (by simp) a1, p.1, _, a2, by simp, a1⟩
    have hl0 : (argSt args 0 0).2 = [] ∨ l = [] := by
      rcases r4 with r4 | r4
      · exact .inl r4
      · right
        rw [r4] at p2
        have := p2.length_le
        simpa using this
    have hnew : ∀ b, b ∈ l.map Prod.snd → w.heap.size ≤ b ∧ b < w'.heap.size := fun b hb => by
      obtain ⟨p, hp, rfl⟩ := List.mem_map.1 hb
      refine ⟨?_, (hblk p hp).1⟩
      obtain ⟨a1, t, xs, a2⟩ := p3 p hp
      rcases hs'.base p.1 _ p.2 a2 (by simp) a1 with hx | hx
      · exact hx
      · rcases hl0 with h0 | h0
        · have : Fs.flatten = [] := by
            rw [← b1]
            have : asg = [] := by
              rw [h0] at l1
              exact List.eq_nil_of_length_eq_zero l1
            rw [this]; rfl
          have hx : p.2 ∈ Fs.flatten := hx
          rw [this] at hx
          simp at hx
        · rw [h0] at hp; simp at hp
    have hnd : (l.map Prod.snd).Nodup := by
      have h1 : (l.map Prod.fst).Nodup := p2.nodup (nodupB_spec r3)
      have : ∀ l : List (Nat × Nat), (∀ p ∈ l, g' p.1 = some p.2 ∧ ∃ t xs, lk p.1 st'.mem = some (.seq t xs)) → (l.map Prod.fst).Nodup → (l.map Prod.snd).Nodup := by
        intro l
        induction l with
        | nil => intro _ _; simp
        | cons p l ih =>
          intro hp hn
          simp only [List.map_cons, List.nodup_cons] at hn ⊢
          refine ⟨fun hmem => ?_, ih (fun q hq => hp q (List.mem_cons_of_mem _ hq)) hn.2⟩
          obtain ⟨q, hq, e⟩ := List.mem_map.1 hmem
          obtain ⟨a1, t1, x1, c1⟩ := hp p (by simp)
          obtain ⟨a2, t2, x2, c2⟩ := hp q (List.mem_cons_of_mem _ hq)
          have := hs'.inj p.1 q.1 _ _ p.2 c1 (by simp) c2 (by simp) a1 (by rw [a2, e])
          exact hn.1 (by rw [this]; exact List.mem_map.2 ⟨q, hq, rfl⟩)
      exact this l p3 h1
    have hbeh : ∀ b, cx.safe g' st'.mem w' b → Behind S w w' (l.map Prod.snd) b := fun b ⟨h1, h2, h3⟩ => ⟨h1, h2, fun hb => by
      obtain ⟨p, hp, e⟩ := List.mem_map.1 hb
      exact h3 (by rw [← e]; exact (hblk p hp).2)⟩
    refine ⟨_, hres, _, l.map Prod.snd, rfl, ⟨rvals, RVsR.mono hbeh p1, ?_⟩, hnd, hnew, hs'.keep, ?_⟩
    · exact resOf_mk rvals
    · refine ownOuts_rel (S := fun b => b < w.heap.size ∧ S b ∧ b ∉ Fs.flatten) (g := g') (m := st'.mem) (w := w') (n := 0) (fun k ch hk => ChR.stays (Stays.mono hbeh) (fun _ _ => rfl) (hs'.mem k ch hk)) hs'.keep.sz hA r5 r6 fun j o hj => ?_
      rw [Nat.zero_add]
      have hj' : j < chs.length := by rw [← l1]; exact (List.getElem?_eq_some_iff.1 hj).1
      have := (hs'.own (j, g j) (List.mem_map.2 ⟨j, by simpa using hj', rfl⟩)).1
      simp only at this
      rw [this]
      have := hgv j o hj
      rw [Nat.zero_add] at this
      exact this
  cases e with
  | normal => exact ret hq
  | ret => exact ret hq
  | _ => exact hq.elim

end Go.Ide
