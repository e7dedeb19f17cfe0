/-
  From a contract to a statement.
-/
import Derived.Test.YthkikckjkhnmlaaIdeZD
namespace Go.Ide
open Go.ChangeShapes Go.WideShapes Go.RowKit

section
variable {H : Type} {enc : TypeId × Value → H} {P : Program}

def parB (P : Program) (ts : List TypeId) : Bool := ts.all fun t => P.readableRec t && Nat.blt t P.types.size

theorem trodAll_below (hl : laidOutB P = true) {W W' : World} (hb : Below W.heap.size W W') : ∀ {ts : List TypeId} {vs : List Value} {ds : List (DataW H)} {p : List MemPlace}, parB P ts = true → DataW.TrodAll enc P W 0 (fun _ => true) true ts vs ds p → (∀ x ∈ p, x.block < W.heap.size) →
    DataW.TrodAll enc P W' 0 (fun b => decide (b < W.heap.size)) true ts vs ds p
  | [], [], [], p, _, h, _ => h
  | t :: ts, v :: vs, d :: ds, p, hp, h, hlt => by
    obtain ⟨p1, p2, h1, h2, rfl⟩ := h
    simp only [parB, List.all_cons, Bool.and_eq_true] at hp
    refine ⟨p1, p2, Below.trod hl hp.1.1 (Nat.lt_of_succ_le (by simpa [Nat.blt] using hp.1.2)) h1 hb (fun x hx => hlt x (by simp [hx])), trodAll_below hl hb (by simpa [parB] using hp.2) h2 (fun x hx => hlt x (by simp [hx])), rfl⟩

theorem law_post {f : Func} {s : ChangeSpec} {T : TypeId} {W W' : World} {args : Array Value} {ds gs : List (DataW H)} {before : List MemPlace} (hl : laidOutB P = true) (hpar : parB P f.params.toList = true) (hv : s.vars = []) (hr : f.resultTypes = #[T]) (hT : P.underlying T = some .bool)
    (hfn : s.fn H ds = { results := [.lit (.bool true)], args := ds }) (hW : DataW.Whole enc P f.params.toList s.vars false W args.toList ds gs before) (hb : Below W.heap.size W W') : s.post enc P f false true false false W args (.bool true) W' := by
  have hW' := hW
  obtain ⟨p, q, hA, hV, rfl, hfz, hnd⟩ := hW
  rw [hv] at hV
  obtain ⟨rfl, rfl⟩ := trodVars_none hV
  have hfn' : s.fn H (ds ++ []) = { results := [.lit (.bool true)], args := ds } := by rw [List.append_nil]; exact hfn
  refine ⟨ds, [], p ++ [], [], p, [], hW', ?_, ?_, ?_, hb.frame _, fun h => by cases h⟩
  · rw [hfn', hr]
    exact trodAll_mk1 ⟨1, by simp [DataW.trod, hT, Value.cells]⟩
  · rw [hfn']
    exact trodAll_below hl hb hpar hA fun x hx => hW'.lt x (by simp [hx])
  · rw [hv, hfn']
    rfl

theorem valOf_ok {n : Nat} {t : Ty} {T : TypeId} {W : World} {r : Reach} {base : Nat} {v : Value} (hc : tyB P n t T = true) (h : Value.okWide P W r base T v) : ValOf t v.cells.toList v := by
  cases n with
  | zero => simp [tyB] at hc
  | succ n =>
    cases t <;> simp only [tyB] at hc
    case pair => cases hc
    case st t =>
      split at hc
      · rename_i fs e
        unfold Value.okWide at h
        rw [e] at h
        obtain ⟨cs, rfl, _⟩ := h
        simp [ValOf, Ty.isSt, Value.cells]
      · cases hc
    all_goals
      split at hc
      · rename_i e
        simp only [Value.okWide, e, Cell.okWide, Cell.ok] at h
        cases v <;> first | (simp [ValOf, Ty.isSt, Value.cells]; done) | (simp at h; done) | exact h.elim
      · cases hc

/-- The arguments as data. -/
def immArgs (l : List TD) : List Arg := l.map fun d => .imm d.t d.x

def tysB (P : Program) : List Ty → List TypeId → Bool
  | [], [] => true
  | t :: ts, T :: Ts => tyB P 40 t T && tysB P ts Ts
  | _, _ => false

theorem args_of_trod {W : World} {base : Nat} {spare : Nat → Bool} {held : Bool} {r : Reach} {b0 : Nat} : ∀ {ts : List Ty} {Ts : List TypeId} {vs : List Value} {ds : List (DataW H)} {p : List MemPlace}, tysB P ts Ts = true → DataW.TrodAll enc P W base spare held Ts vs ds p →
    (∀ (j : Nat) t v, Ts[j]? = some t → vs[j]? = some v → Value.okWide P W r b0 t v) → ∃ l : List TD, l.map TD.t = ts ∧ (∀ d ∈ l, WfD d.t d.x) ∧ ArgsR (There W) W (immArgs l) vs (l.map fun _ => [])
  | [], [], [], [], p, _, _, _ => ⟨[], rfl, fun d hd => by simp at hd, trivial⟩
  | t :: ts, T :: Ts, v :: vs, d :: ds, p, hc, h, hok => by
    obtain ⟨p1, p2, ⟨fuel, h1⟩, h2, rfl⟩ := h
    simp only [tysB, Bool.and_eq_true] at hc
    obtain ⟨x, k1, k2⟩ := (rep_of_trod 40).1 t T fuel _ _ hc.1 h1
    obtain ⟨l, k3, k4, k5⟩ := args_of_trod hc.2 h2 fun j t v hj hv => hok (j + 1) t v (by simpa using hj) (by simpa using hv)
    refine ⟨⟨t, x⟩ :: l, by simp [k3], fun d hd => ?_, ⟨rfl, _, valOf_ok hc.1 (hok 0 T v rfl rfl), k1⟩, k5⟩
    rcases List.mem_cons.1 hd with e | hd
    · subst e; exact k2
    · exact k4 d hd
  | [], _ :: _, _, _, _, hc, _, _ => by simp [tysB] at hc
  | _ :: _, [], _, _, _, hc, _, _ => by simp [tysB] at hc

theorem flat_nil {α β : Type} : ∀ (l : List α), (l.map fun _ => ([] : List β)).flatten = []
  | [] => rfl
  | _ :: l => by simp

theorem res_true {S : Nat → Prop} {w : World} {v : Value} {F : List Nat} (h : ResR S w [⟨false, .bool, true⟩] v F) : v = .bool true := by
  obtain ⟨vs, h1, h2⟩ := h
  cases vs with
  | nil => exact h1.elim
  | cons u vs =>
    obtain ⟨F1, F2, _, h3, h4⟩ := h1
    cases vs with
    | cons => exact h4.elim
    | nil =>
      have h2 : v = u := h2
      subst h2
      simp only [RVR] at h3
      obtain ⟨_, cs, h5, h6⟩ := h3
      have h6 : cs = [.bool true] := h6
      subst h6
      have h5 : [Value.bool true] = [v] := h5
      simpa using h5.symm

/-- A law that returns true at all data: what its row asks. -/
theorem law_run {f : FuncId} {fn : Func} {s : ChangeSpec} {T : TypeId} {ts : List Ty} {W : World} {base : Nat} {args : Array Value} {ds gs : List (DataW H)} {before : List MemPlace} (hl : laidOutB P = true) (hpar : parB P fn.params.toList = true) (hv : s.vars = []) (hr : fn.resultTypes = #[T]) (hT : P.underlying T = some .bool)
    (hts : tysB P ts fn.params.toList = true) (hfn : ds.length = ts.length → s.fn H ds = { results := [.lit (.bool true)], args := ds })
    (hall : ∀ l : List TD, l.map TD.t = ts → (∀ d ∈ l, WfD d.t d.x) → CallOK P f (immArgs l) [⟨false, .bool, true⟩] [])
    (hval : ∀ (j : Nat) t v, fn.params[j]? = some t → args[j]? = some v → Value.okWide P W .any base t v) (hW : DataW.Whole enc P fn.params.toList s.vars false W args.toList ds gs before) :
    Calls P f args W fun e W' => ∃ v, e = .returned v ∧ s.post enc P fn false true false false W args v W' := by
  have hW' := hW
  obtain ⟨p, q, hA, hV, rfl, hfz, hnd⟩ := hW
  obtain ⟨l, k1, k2, k3⟩ := args_of_trod (r := .any) (b0 := base) hts hA fun j t v hj hv => hval j t v (by simpa using hj) (by simpa using hv)
  have hds : ds.length = ts.length := by
    have aux : ∀ {Ts : List TypeId} {vs : List Value} {ds : List (DataW H)} {p : List MemPlace}, DataW.TrodAll enc P W 0 (fun _ => true) true Ts vs ds p → ds.length = Ts.length := by
      intro Ts
      induction Ts with
      | nil => intro vs ds p h; obtain ⟨_, rfl, _⟩ := trodAll_nil h; rfl
      | cons T Ts ih =>
        intro vs ds p h
        obtain ⟨v, vs', d, ds', p, q, rfl, rfl, rfl, _, h2⟩ := trodAll_cons h
        simp [ih h2]
    have aux2 : ∀ {ts : List Ty} {Ts : List TypeId}, tysB P ts Ts = true → ts.length = Ts.length := by
      intro ts
      induction ts with
      | nil => intro Ts h; cases Ts with
        | nil => rfl
        | cons => simp [tysB] at h
      | cons t ts ih => intro Ts h; cases Ts with
        | nil => simp [tysB] at h
        | cons T Ts => simp only [tysB, Bool.and_eq_true] at h; simp [ih h.2]
    rw [aux hA, aux2 hts]
  obtain ⟨_, hcall⟩ := hall l k1 k2
  have hflat := flat_nil (β := Nat) l
  have := hcall W (There W) args.toList (l.map fun _ => []) (fun b hb => ⟨hb, by rw [hflat]; simp⟩) (by rw [hflat]; exact List.nodup_nil) (fun b hb => by rw [hflat] at hb; simp at hb) k3
  rw [show args.toList.toArray = args from by simp] at this
  refine this.mono fun e W' ⟨v, F', e1, h1, _, _, h4, _⟩ => ?_
  have hvt := res_true h1
  subst hvt
  have h4 : KeepF [] W W' := by
    rw [show ([] : List Nat) = (l.map fun _ => ([] : List Nat)).flatten from hflat.symm]
    simpa using h4
  exact ⟨_, e1, law_post hl hpar hv hr hT (hfn hds) hW' ⟨h4.os, h4.tape, h4.output, h4.size, fun k hk => h4.block k hk (by simp)⟩⟩

end
end Go.Ide
