/-
  Told by plain functions: rules for proofs that a program prints.
-/
import Derived.Test.YthkikckjkhnmlaaIdeZ
namespace Go.Ide

/-- Some rounds of a loop. -/
def runN {σ ρ : Type} (f : σ → Option (σ ⊕ ρ)) : Nat → σ → Option ρ
  | 0, _ => none
  | n + 1, s => match f s with
    | some (.inl s') => runN f n s'
    | some (.inr r) => some r
    | none => none

theorem runN_mono {σ ρ : Type} {f : σ → Option (σ ⊕ ρ)} : ∀ {n m : Nat} {s : σ} {r : ρ}, n ≤ m → runN f n s = some r → runN f m s = some r
  | 0, _, _, _, _, h => by cases h
  | n + 1, 0, _, _, hle, _ => by omega
  | n + 1, m + 1, s, r, hle, h => by
    simp only [runN] at h ⊢
    cases hf : f s with
    | none => simp [hf] at h
    | some x =>
      cases x with
      | inr r' => rw [hf] at h; exact h
      | inl s' => rw [hf] at h; exact runN_mono (Nat.le_of_succ_le_succ hle) h

/-- A loop's result, if it ends. -/
noncomputable def rounds {σ ρ : Type} (f : σ → Option (σ ⊕ ρ)) (s : σ) : Option ρ :=
  @dite (Option ρ) (∃ r, ∃ n, runN f n s = some r) (Classical.propDecidable _) (fun h => some (Classical.choose h)) (fun _ => none)

theorem rounds_iff {σ ρ : Type} {f : σ → Option (σ ⊕ ρ)} {s : σ} {r : ρ} : rounds f s = some r ↔ ∃ n, runN f n s = some r := by
  unfold rounds
  constructor
  · intro h
    split at h
    · rename_i hx
      injection h with h
      subst h
      exact Classical.choose_spec hx
    · cases h
  · rintro ⟨n, hn⟩
    have hx : ∃ r, ∃ n, runN f n s = some r := ⟨r, n, hn⟩
    rw [dif_pos hx]
    obtain ⟨m, hm⟩ := Classical.choose_spec hx
    have h1 := runN_mono (Nat.le_max_left n m) hn
    have h2 := runN_mono (Nat.le_max_right n m) hm
    rw [h1] at h2
    injection h2 with h2
    rw [h2]

theorem rounds_eq {σ ρ : Type} (f : σ → Option (σ ⊕ ρ)) (s : σ) : rounds f s = match f s with
    | some (.inl s') => rounds f s'
    | some (.inr r) => some r
    | none => none := by
  have key : ∀ r, rounds f s = some r ↔ (match f s with
    | some (.inl s') => rounds f s'
    | some (.inr r) => some r
    | none => none) = some r := by
    intro r
    rw [rounds_iff]
    constructor
    · rintro ⟨n, hn⟩
      cases n with
      | zero => cases hn
      | succ n =>
        simp only [runN] at hn
        cases hf : f s with
        | none => rw [hf] at hn; cases hn
        | some x =>
          rw [hf] at hn
          cases x with
          | inl s' => exact rounds_iff.2 ⟨n, hn⟩
          | inr r' => exact hn
    · intro h
      split at h
      · rename_i s' hf
        obtain ⟨n, hn⟩ := rounds_iff.1 h
        exact ⟨n + 1, by simp only [runN]; rw [hf]; exact hn⟩
      · rename_i r' hf
        exact ⟨1, by simp only [runN]; rw [hf]; exact h⟩
      · cases h
  cases h1 : rounds f s with
  | some r => exact ((key r).1 h1).symm
  | none =>
    cases h2 : (match f s with
    | some (.inl s') => rounds f s'
    | some (.inr r) => some r
    | none => none) with
    | none => rfl
    | some r =>
      have := (key r).2 h2
      rw [h1] at this
      cases this

theorem of_bind {α β : Type} {o : Option α} {k : α → Option β} {r : β} (h : o.bind k = some r) : ∃ y, o = some y ∧ k y = some r := by
  cases o with
  | none => cases h
  | some y => exact ⟨y, rfl, h⟩

def guardP {β : Type} (p : Prop) [Decidable p] (k : Option β) : Option β := if p then k else none

theorem of_guard {β : Type} {p : Prop} [Decidable p] {k : Option β} {r : β} (h : guardP p k = some r) : p ∧ k = some r := by
  unfold guardP at h
  split at h
  · rename_i hp; exact ⟨hp, h⟩
  · cases h

theorem guard_pos {β : Type} {p : Prop} [Decidable p] {k : Option β} (h : p) : guardP p k = k := if_pos h

theorem of_bif {β : Type} {b : Bool} {x y : Option β} {r : β} (h : (bif b then x else y) = some r) : (b = true ∧ x = some r) ∨ (b = false ∧ y = some r) := by
  cases b with
  | true => exact .inl ⟨rfl, h⟩
  | false => exact .inr ⟨rfl, h⟩

/-- Ints of the machine. -/
abbrev wadd (k : IntKind) (a b : Int) : Int := k.wrap (a + b)
abbrev wsub (k : IntKind) (a b : Int) : Int := k.wrap (a - b)
abbrev wmul (k : IntKind) (a b : Int) : Int := k.wrap (a * b)
abbrev lenI {α : Type} (xs : List α) : Int := ((List.length xs : Nat) : Int)

section
variable {cx : Cx} {st : St} {P : Program} {N : Nat} {Q : Exit → St → Prop} {x y c : Code}

theorem HT.reg {id : Nat} {ops : List Oper} {rs : List OH} {st' : St} {cs : List Prop} (hP : cx.P = P) (hN : cx.N = N) (he : ireg P N ops ops rs st = some (st', cs)) (hc : AllP cs) (hq : Q .normal st') : HT cx st (.region id ops.toArray false) Q := by
  subst hP; subst hN; exact HT.region he hc hq

theorem HT.regS {id : Nat} {ops : List Oper} {rs : List OH} (st' : St) {cs : List Prop} (hP : cx.P = P) (hN : cx.N = N) (he : ireg P N ops ops rs st = some (st', cs)) (hc : AllP cs) (hq : HT cx st' y Q) : HT cx st (.seq (.region id ops.toArray false) y) Q :=
  HT.seq (HT.reg hP hN he hc hq)

theorem HT.drw {id h : Nat} {ops : List Oper} {hrs : List HR} {tds : List (List Nat)} {rs : List OH} {ers : List ER} {st' : St} {cs cs' : List Prop} {nx : Nat} (hP : cx.P = P) (hN : cx.N = N) (hm : P.follows .mixedOrders = true)
    (hn : (hrs.length == h && Nat.ble h ops.length) = true) (hok : okFrom ops (hrs.map HR.D ++ tds) h 0 ops = true) (hh : ihead P N ops st (ops.take h) hrs [] st.nx = some (ers, cs, nx))
    (he : ireg P N ops (ops.drop h) rs (headSt st ers (fun _ => true) nx) = some (st', cs')) (hc : AllP cs) (hc' : AllP cs') (hq : Q .normal st') : HT cx st (.region id ops.toArray true) Q := by
  subst hP; subst hN; exact HT.draw hm hn hok hh he hc hc' hq

theorem HT.drwS {id : Nat} (h : Nat) {ops : List Oper} {hrs : List HR} {tds : List (List Nat)} {rs : List OH} {ers : List ER} (st' : St) {cs cs' : List Prop} {nx : Nat} (hP : cx.P = P) (hN : cx.N = N) (hm : P.follows .mixedOrders = true)
    (hn : (hrs.length == h && Nat.ble h ops.length) = true) (hok : okFrom ops (hrs.map HR.D ++ tds) h 0 ops = true) (hh : ihead P N ops st (ops.take h) hrs [] st.nx = some (ers, cs, nx))
    (he : ireg P N ops (ops.drop h) rs (headSt st ers (fun _ => true) nx) = some (st', cs')) (hc : AllP cs) (hc' : AllP cs') (hq : HT cx st' y Q) : HT cx st (.seq (.region id ops.toArray true) y) Q :=
  HT.seq (HT.drw hP hN hm hn hok hh he hc hc' hq)

/-- Several ends of a piece meet. -/
theorem HT.seqJ (stJ : St) (h1 : HT cx stJ y Q) (h2 : HT cx stJ y Q → HT cx st x (thenQ cx y Q)) : HT cx st (.seq x y) Q := HT.seq (h2 h1)

/-- One state's words for another's. -/
def Le (cx : Cx) (st st' : St) : Prop := ∀ g a w, Sim cx g st a w → ∃ g', Sim cx g' st' a w

theorem Le.cv {s : CvS} {own : List Nat} {ps : List Prop} {st' : St} (ho : cx.own.map Prod.fst = own) (hF : s.fz = true → cx.F = []) (he : st.cv s own st' = some ps) (hp : AllP ps) : Le cx st st' :=
  fun _ _ _ hs => hs.cv he hp ho hF

theorem Le.ht {st' : St} (h : Le cx st st') (hc : HT cx st' c Q) : HT cx st c Q := fun g a w hs => let ⟨g', hs'⟩ := h g a w hs; hc g' a w hs'

theorem Le.refl : Le cx st st := fun g _ _ hs => ⟨g, hs⟩

/-- A loop that a plain function tells. -/
theorem HT.loopE {σ ρ : Type} {f : σ → Option (σ ⊕ ρ)} {s : σ} {r : ρ} (S : σ → St) (E : ρ → Exit × St) (h : rounds f s = some r) (hc : Q (E r).1 (E r).2)
    (round : ∀ s x, f s = some x → (∀ r', x = .inr r' → Q (E r').1 (E r').2) → HT cx (S s) c (loopQ (fun st' => ∃ s', x = .inl s' ∧ Le cx st' (S s')) Q)) : HT cx (S s) (.loop c) Q := by
  obtain ⟨n, hn⟩ := rounds_iff.1 h
  -- states that are as good as S s
  let I : Nat → St → Prop := fun n st' => ∃ s, Le cx st' (S s) ∧ runN f n s = some r
  have := HT.loop (cx := cx) (c := c) (Q := Q) (α := St) (I := I) (S := id) (n := n) (s := S s) ⟨s, Le.refl, hn⟩ (fun st' ⟨s, _, h0⟩ => by cases h0) (fun n st' ⟨s, hle, hr⟩ => by
    simp only [runN] at hr
    have hx : ∃ x, f s = some x ∧ (∀ r', x = .inr r' → r' = r) ∧ ∀ s', x = .inl s' → runN f n s' = some r := by
      split at hr
      · rename_i s' hf; exact ⟨.inl s', hf, fun r' e => (by cases e), fun s'' e => (by injection e with e; subst e; exact hr)⟩
      · rename_i r' hf; injection hr with hr; exact ⟨.inr r', hf, fun r'' e => (by injection e with e; rw [← e]; exact hr), fun s'' e => (by cases e)⟩
      · cases hr
    obtain ⟨x, hf, h1, h2⟩ := hx
    refine hle.ht ((round s x hf fun r' e => by rw [h1 r' e]; exact hc).mono fun e st1 hq => ?_)
    cases e with
    | normal =>
      obtain ⟨s', e1, hle'⟩ := hq
      exact ⟨st1, rfl, s', hle', h2 s' e1⟩
    | _ => exact hq)
  exact this

theorem nil_test (g : GM) (m : Mem) (S : Nat → Prop) (w : World) {v : IVal} {val : Value} {t : Ty} {xs : List t.D} (hv : vdat m (.sl t) v = some xs) (hm : ReadM g m m (fun _ => True) w) (h : VR g m S w v val) : ∃ a n cap, val = .slice a n cap ∧ (a = none → xs = []) := by
  obtain ⟨cs, h1, h2⟩ := vdat_rep (S2 := fun _ => True) (fun _ _ => trivial) hm hv h
  obtain ⟨a, cap, e, _, hel⟩ := h2
  have : val = .slice a (List.length xs) cap := by
    unfold ValOf at h1
    rw [e] at h1
    simpa [Ty.isSt] using h1.symm
  refine ⟨a, _, cap, this, fun ha => ?_⟩
  cases xs with
  | nil => rfl
  | cons x xs =>
    obtain ⟨ad, es, e1, _⟩ := hel 0 (by simp)
    rw [ha] at e1; cases e1

end
end Go.Ide
