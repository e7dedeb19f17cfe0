/-
  An operation of a region: what it does in the ideal machine, and that the model does so.
-/
import Derived.Test.YthkikckjkhnmlaaIdeR
namespace Go.Ide

def evl (fr : Fr) : List Operand → Option (List IVal)
  | [] => some []
  | x :: r => match ev fr x, evl fr r with
    | some v, some l => some (v :: l)
    | _, _ => none

def evo (fr : Fr) : Option Operand → Option (Option IVal)
  | none => some none
  | some x => match ev fr x with
    | some v => some (some v)
    | none => none

def iLenT (P : Program) (m : Mem) (T : TypeId) (x : IVal) : Option Eff :=
  match P.underlying T, x with
  | some .string, .one (.dat .str _) => iLen m x
  | some (.slice _), .one (.dat (.sl _) _) => iLen m x
  | some (.slice _), .one (.all _) => iLen m x
  | some (.slice _), .one (.ref _ _ _) => iLen m x
  | some (.slice _), .one .nilS => iLen m x
  | _, _ => none

def iIndex (P : Program) (T : TypeId) (x i : IVal) : Option Eff :=
  match P.underlying T, x, i with
  | some .string, .one (.dat .str s), .one (.dat (.int _) n) =>
    pureC (.one (.dat (.int .u8) ((((List.getD s (Int.toNat n) 0 : UInt8).toNat : Nat)) : Int))) [(0 : Int) ≤ n ∧ n < ((List.length s : Nat) : Int)]
  | _, _, _ => none

def iNil (x : IVal) : Option Eff :=
  match x with
  | .one (.ptr c off) => pureE (.one (.ptr c off))
  | .one (.ip t y off) => pureE (.one (.ip t y off))
  | .one (.elp c i sz) => pureE (.one (.elp c i sz))
  | _ => none

def iBuiltin (P : Program) (fr : Fr) (m : Mem) (nx : Nat) (h : Hint) (b : Builtin) (args : List Operand) (ts : List TypeId) : Option Eff :=
  match b, args, ts with
  | .len, [x], [T] => (match ev fr x with
    | some v => iLenT P m T v
    | none => none)
  | .append, [s, x], [T, T'] => (match h, ev fr s, ev fr x with
    | .ty t, some sv, some xv => iAppend P m nx T T' t sv xv
    | _, _, _ => none)
  | .min, [x, y], _ => (match ev fr x, ev fr y with
    | some xv, some yv => iMin xv yv
    | _, _ => none)
  | .max, [x, y], _ => (match ev fr x, ev fr y with
    | some xv, some yv => iMax xv yv
    | _, _ => none)
  | _, _, _ => none

def iop (P : Program) (fr : Fr) (m : Mem) (nx : Nat) (h : Hint) (o : Oper) : Option Eff :=
  match o.op with
  | .move x => (match ev fr x with
    | some v => pureE v
    | none => none)
  | .assign x => (match ev fr x with
    | some v => pureE v
    | none => none)
  | .pick c x y => (match h with
    | .tv b => (match ev fr c, ev fr (if b then x else y) with
      | some cv, some v => iPick b cv v v
      | _, _ => none)
    | _ => none)
  | .alloc T => iAlloc P nx T
  | .box _ x => (match ev fr x with
    | some v => iBox nx v
    | none => none)
  | .build T parts => (match evs fr parts.toList with
    | some vs => iBuild P T vs
    | none => none)
  | .buildSlice T len parts => (match h, evs fr parts.toList with
    | .ty t, some vs => iBuildSlice P nx T t len vs
    | .no, some vs => iEmpty P T len vs
    | _, _ => none)
  | .load T x => (match ev fr x with
    | some v => iLoad P m T v
    | none => none)
  | .store T x y => (match ev fr x, ev fr y with
    | some xv, some yv => iStore P m T xv yv
    | _, _ => none)
  | .nilCheck x => (match ev fr x with
    | some v => iNil v
    | none => none)
  | .binOp op T x y _ => (match ev fr x, ev fr y with
    | some xv, some yv => iBin P T op xv yv
    | _, _ => none)
  | .unOp op _ x => (match ev fr x with
    | some v => iUn op v
    | none => none)
  | .convert T U x => (match ev fr x with
    | some v => iConvert P T U v
    | none => none)
  | .makeSlice T l c => (match h, ev fr l, ev fr c with
    | .ty t, some lv, some cv => iMakeSlice P nx T t lv cv
    | _, _, _ => none)
  | .slice T x lo hi none => (match ev fr x, evo fr lo, evo fr hi with
    | some v, some l, some h => iSlice P m T v l h
    | _, _, _ => none)
  | .fieldAddr T x f => (match ev fr x with
    | some v => iFieldAddr P T v f
    | none => none)
  | .indexAddr T x i => (match ev fr x, ev fr i with
    | some v, some j => iIndexAddr P m T v j
    | _, _ => none)
  | .index T x i => (match ev fr x, ev fr i with
    | some v, some j => iIndex P T v j
    | _, _ => none)
  | .extract x i => (match ev fr x with
    | some v => iExtract v i
    | none => none)
  | .call c => (match c.callee with
    | .builtin b => iBuiltin P fr m nx h b c.args.toList c.argTypes.toList
    | .value f => (match h, ev fr f, evl fr c.args.toList with
      | .call ms rs outs, some (.one (.fn k)), some vs => iCall P m nx ms rs outs k vs
      | _, _, _ => none)
    | _ => none)
  | _ => none

section
variable {cx : Cx} {g : GM} {st : St} {a : Act} {w : World}

theorem evl_VR (h : Sim cx g st a w) : ∀ {xs : List Operand} {vs : List IVal}, evl st.fr xs = some vs → All2 (VR g st.mem (cx.safe g st.mem w) w) vs (xs.map a.eval)
  | [], vs, he => by simp only [evl] at he; injection he with he; subst he; trivial
  | x :: xs, vs, he => by
    simp only [evl] at he
    split at he
    · rename_i v l hv hl
      injection he with he
      subst he
      exact ⟨ev_VR h hv, evl_VR h hl⟩
    · cases he

theorem evo_VR (h : Sim cx g st a w) {x : Option Operand} {v : Option IVal} (he : evo st.fr x = some v) : OR g st.mem (cx.safe g st.mem w) w v (x.map a.eval) := by
  cases x with
  | none => simp only [evo] at he; injection he with he; subst he; trivial
  | some x =>
    simp only [evo] at he
    split at he
    · rename_i u hu
      injection he with he
      subst he
      exact ev_VR h hu
    · cases he

theorem evs_VR (h : Sim cx g st a w) : ∀ {xs : List (Nat × Operand)} {vs : List (Nat × IVal)}, evs st.fr xs = some vs →
    All2 (fun (p : Nat × IVal) (q : Nat × Value) => p.1 = q.1 ∧ VR g st.mem (cx.safe g st.mem w) w p.2 q.2) vs (xs.map fun (i, x) => (i, a.eval x))
  | [], vs, he => by simp only [evs] at he; injection he with he; subst he; trivial
  | (i, x) :: xs, vs, he => by
    simp only [evs] at he
    split at he
    · rename_i v l hv hl
      injection he with he
      subst he
      exact ⟨⟨rfl, ev_VR h hv⟩, evs_VR h hl⟩
    · cases he

/-- The operation gives a value, or enters a function that comes back with one. -/
def Does (cx : Cx) (st : St) (a : Act) (w : World) (o : Oper) (e : Eff) : Prop :=
  (∃ val w', (execOp a.eval o).run cx.P w = .ok (.value val) w' ∧ Did cx st a e val w') ∨
  (∃ w', (execOp a.eval o).run cx.P w = .ok .skip w' ∧ Did cx st a e undef w') ∨
  (∃ f args, (execOp a.eval o).run cx.P w = .ok (.enter f args) w ∧ Calls cx.P f args w fun en w' => ∃ v, en = .returned v ∧ Did cx st a e v w')

theorem Does.wp {o : Oper} {e : Eff} {K : Act → World → Prop} {Q : Exit → Act → World → Prop} (h : Does cx st a w o e) (hk : ∀ val w', Did cx st a e val w' → K (a.put o.dst val) w') : o.wp cx.P a w K Q := by
  unfold Oper.wp
  rcases h with ⟨val, w', h1, h2⟩ | ⟨w', h1, h2⟩ | ⟨f, args, h1, h2⟩
  · rw [h1]; exact hk val w' h2
  · rw [h1]; exact hk undef w' h2
  · rw [h1]
    exact h2.mono fun en w' ⟨v, e1, hd⟩ => by subst e1; exact hk v w' hd

theorem Runs.does {o : Oper} {e : Eff} {s : Sem Value} (h : Runs cx st a w s e) (he : execOp a.eval o = (do pure (.value (← s)))) : Does cx st a w o e := by
  obtain ⟨val, w', h1, h2⟩ := h
  exact .inl ⟨val, w', by rw [he]; simp [h1], h2⟩

theorem RunsU.does {o : Oper} {e : Eff} {s : Sem Unit} (h : RunsU cx st a w s e) (he : execOp a.eval o = (do s; pure .skip)) : Does cx st a w o e := by
  obtain ⟨w', h1, h2⟩ := h
  exact .inr (.inl ⟨w', by rw [he]; simp [h1], h2⟩)

theorem Does.pure {o : Oper} {e : Eff} {v : IVal} {val : Value} (h : Sim cx g st a w) (he : execOp a.eval o = Pure.pure (.value val)) (hp : e.new = [] ∧ e.upd = [] ∧ e.val = v) (hv : VR g st.mem (cx.safe g st.mem w) w v val) : Does cx st a w o e := by
  refine .inl ⟨val, w, by rw [he]; rfl, g, ?_, ?_⟩
  · rw [hp.1, hp.2.1]; exact h
  · rw [hp.1, hp.2.1, hp.2.2]; exact hv

/-- Numbers, strings, bools. -/
def PlainV (u : Value) : Prop := (∃ k n, u = .int k n) ∨ (∃ s, u = .string s) ∨ (∃ b, u = .bool b)

theorem eqGuard_run {P : Program} {op : BinOp} {T : TypeId} {x y : Operand} {u v : Value} (h : PlainV u) : (eqGuard op T x y u v).run P w = .ok () w := by
  rcases h with ⟨k, n, rfl⟩ | ⟨s, rfl⟩ | ⟨b, rfl⟩ <;> cases op <;> cases v <;> rfl

theorem iBin_vals {op : BinOp} {T : TypeId} {x y : IVal} {e : Eff} {u : Value} (he : iBin cx.P T op x y = some e) (hx : VR g st.mem (cx.safe g st.mem w) w x u) : PlainV u := by
  unfold iBin at he
  split at he
  · exact .inl ⟨_, _, dat_int (g := g) (m := st.mem) (S := cx.safe g st.mem w) (w := w) hx⟩
  · exact .inr (.inl ⟨_, dat_str (g := g) (m := st.mem) (S := cx.safe g st.mem w) (w := w) hx⟩)
  · exact .inr (.inr ⟨_, dat_bool (g := g) (m := st.mem) (S := cx.safe g st.mem w) (w := w) hx⟩)
  · cases he

theorem iIndex_sound {P : Program} {m : Mem} {S : Nat → Prop} {T : TypeId} {x i : IVal} {e : Eff} {xa ia : Value} (h : iIndex P T x i = some e) (hc : AllP e.cond) (hx : VR g m S w x xa) (hi : VR g m S w i ia) : Gives P g m S w (Instr.index T xa ia) e := by
  unfold iIndex at h
  split at h
  · rename_i s k n hu
    obtain ⟨he, hco⟩ := pureC_eq h
    rw [hco] at hc
    obtain ⟨⟨h0, h1⟩, _⟩ := hc
    have e1 := dat_str (g := g) (m := m) (S := S) (w := w) hx
    have e2 := dat_int (g := g) (m := m) (S := S) (w := w) hi
    subst e1
    subst e2
    have hlt : Int.toNat n < List.length s := toNat_lt h0 h1
    refine Gives.mk he (r := .int .u8 ((((List.getD s (Int.toNat n) 0 : UInt8).toNat : Nat)) : Int)) ?_ rfl
    have hsz : Int.toNat n < (⟨List.toArray s⟩ : ByteArray).size := by simpa [ByteArray.size] using hlt
    have hget : (⟨List.toArray s⟩ : ByteArray)[Int.toNat n]? = some (List.getD s (Int.toNat n) 0) := by
      rw [getElem?_pos (⟨List.toArray s⟩ : ByteArray) (Int.toNat n) hsz]
      congr 1
      rw [getD_eq hlt]
      rfl
    have h0' : (0 : Int) ≤ n := h0
    simp only [Instr.index, Sem.run_bind, run_underlying hu, Result.andThen_ok, asIntOf, Sem.run_pure]
    rw [if_pos h0', hget]
    rfl
  · cases h

theorem iop_sound {h : Hint} {o : Oper} {e : Eff} (hs : Sim cx g st a w) (hw : Fresh st.mem e.new) (he : iop cx.P st.fr st.mem st.nx h o = some e) (hc : AllP e.cond) : Does cx st a w o e := by
  unfold iop at he
  split at he
  · rename_i x ho
    split at he
    · rename_i v hv
      exact Does.pure hs (by simp only [execOp, ho]) (pureE_eq he) (ev_VR hs hv)
    · cases he
  · rename_i x ho
    split at he
    · rename_i v hv
      exact Does.pure hs (by simp only [execOp, ho]) (pureE_eq he) (ev_VR hs hv)
    · cases he
  · rename_i c x y ho
    split at he
    · rename_i b
      split at he
      · rename_i cv v hcv hv
        unfold iPick at he
        split at he
        · rename_i t
          obtain ⟨hp, hco⟩ := pureC_eq he
          rw [hco] at hc
          have ht : t = b := hc.1
          have e1 := dat_bool (g := g) (m := st.mem) (S := cx.safe g st.mem w) (w := w) (ev_VR hs hcv)
          have hv' := ev_VR hs hv
          refine .inl ⟨a.eval (if b then x else y), w, ?_, g, ?_, ?_⟩
          · simp only [execOp, ho, e1, asBool]
            rw [ht]
            cases b <;> rfl
          · rw [hp.1, hp.2.1]; exact hs
          · rw [hp.1, hp.2.1, hp.2.2]
            cases b <;> exact hv'
        · cases he
      · cases he
    · cases he
  · rename_i T ho
    exact (iAlloc_sound hs hw he).does (by simp only [execOp, ho])
  · rename_i T x ho
    split at he
    · rename_i v hv
      exact (iBox_sound (T := T) hs hw he (ev_VR hs hv)).does (by simp only [execOp, ho])
    · cases he
  · rename_i T parts ho
    split at he
    · rename_i vs hvs
      have := iBuild_sound (P := cx.P) (g := g) (m := st.mem) (S := cx.safe g st.mem w) (w := w) (vparts := parts.map fun (i, x) => (i, a.eval x)) he (by simpa using evs_VR hs hvs)
      exact (this.runs hs).does (by simp only [execOp, ho])
    · cases he
  · rename_i T len parts ho
    split at he
    · rename_i t vs hvs
      have := iBuildSlice_sound (vparts := parts.map fun (i, x) => (i, a.eval x)) hs hw he (by simpa using evs_VR hs hvs)
      exact this.does (by simp only [execOp, ho])
    · rename_i vs hvs
      have := iEmpty_sound (vparts := parts.map fun (i, x) => (i, a.eval x)) hs he (by simpa using evs_VR hs hvs)
      exact this.does (by simp only [execOp, ho])
    · cases he
  · rename_i T x ho
    split at he
    · rename_i v hv
      exact ((iLoad_sound hs.mem he hc (ev_VR hs hv)).runs hs).does (by simp only [execOp, ho])
    · cases he
  · rename_i T x y ho
    split at he
    · rename_i xv yv hx hy
      exact (iStore_sound hs he hc (ev_VR hs hx) (ev_VR hs hy)).does (by simp only [execOp, ho])
    · cases he
  · rename_i x ho
    split at he
    · rename_i v hv
      have hv' := ev_VR hs hv
      unfold iNil at he
      split at he
      · obtain ⟨_, b, _, e1⟩ := hv'
        exact Does.pure hs (by simp [execOp, ho, e1]; rfl) (pureE_eq he) (by rw [← e1]; exact ev_VR hs hv)
      · obtain ⟨ad, es, e1, _⟩ := hv'
        exact Does.pure hs (by simp [execOp, ho, e1]; rfl) (pureE_eq he) (by rw [← e1]; exact ev_VR hs hv)
      · obtain ⟨_, b, _, e1⟩ := hv'
        exact Does.pure hs (by simp [execOp, ho, e1]; rfl) (pureE_eq he) (by rw [← e1]; exact ev_VR hs hv)
      · cases he
    · cases he
  · rename_i op T x y T' ho
    split at he
    · rename_i xv yv hx hy
      obtain ⟨k1, k2, r, k3, k4⟩ := iBin_sound he hc (ev_VR hs hx) (ev_VR hs hy)
      refine .inl ⟨r, w, ?_, g, by rw [k1, k2]; exact hs, by rw [k1, k2]; exact k4⟩
      simp only [execOp, ho, Sem.run_bind, eqGuard_run (iBin_vals he (ev_VR hs hx)), Result.andThen_ok, k3, Sem.run_pure]
    · cases he
  · rename_i op T x ho
    split at he
    · rename_i v hv
      exact ((iUn_sound he (ev_VR hs hv)).runs hs).does (by simp only [execOp, ho])
    · cases he
  · rename_i T U x ho
    split at he
    · rename_i v hv
      exact ((iConvert_sound he (ev_VR hs hv)).runs hs).does (by simp only [execOp, ho])
    · cases he
  · rename_i T l c ho
    split at he
    · rename_i t lv cv hl hcv
      exact (iMakeSlice_sound hs hw he hc (ev_VR hs hl) (ev_VR hs hcv)).does (by simp only [execOp, ho])
    · cases he
  · rename_i T x lo hi ho
    split at he
    · rename_i v l h' hv hl hh
      exact ((iSlice_sound hs.mem he hc (ev_VR hs hv) (evo_VR hs hl) (evo_VR hs hh)).runs hs).does (by simp only [execOp, ho]; rfl)
    · cases he
  · rename_i T x f ho
    split at he
    · rename_i v hv
      exact ((iFieldAddr_sound he (ev_VR hs hv)).runs hs).does (by simp only [execOp, ho])
    · cases he
  · rename_i T x i ho
    split at he
    · rename_i v j hv hj
      exact ((iIndexAddr_sound hs.mem he hc (ev_VR hs hv) (ev_VR hs hj)).runs hs).does (by simp only [execOp, ho])
    · cases he
  · rename_i T x i ho
    split at he
    · rename_i v j hv hj
      exact ((iIndex_sound he hc (ev_VR hs hv) (ev_VR hs hj)).runs hs).does (by simp only [execOp, ho])
    · cases he
  · rename_i x i ho
    split at he
    · rename_i v hv
      exact ((iExtract_sound he (ev_VR hs hv)).runs hs).does (by simp only [execOp, ho])
    · cases he
  · rename_i c ho
    split at he
    · rename_i b hb
      have hres : ∀ (consts : Array Bool), resolve a.eval c o.type = pure { target := .builtin b c.argTypes o.type (c.args.map fun | .const _ => true | _ => false), args := c.args.map a.eval } := fun _ => by
        unfold resolve; rw [hb]; rfl
      have hargs : ∀ l, c.args.toList = l → c.args.map a.eval = (l.map a.eval).toArray := fun l hl => by
        subst hl; apply Array.ext'; rw [Array.toList_map]
      have htys : ∀ l, c.argTypes.toList = l → c.argTypes = l.toArray := fun l hl => by subst hl; rfl
      unfold iBuiltin at he
      split at he
      · rename_i x T hal htl
        split at he
        · rename_i v hv
          have hv' := ev_VR hs hv
          have hg : Gives cx.P g st.mem (cx.safe g st.mem w) w (Builtin.len_ #[T] o.type #[a.eval x]) e := by
            unfold iLenT at he
            split at he
            · rename_i s hu
              refine iLen_sound (T := T) hs.mem (by simp [isSl, hu]) he hv' rfl (fun _ _ => hu) (fun a' n c' e' => ?_)
              have := dat_str (g := g) (m := st.mem) (S := cx.safe g st.mem w) (w := w) hv'
              rw [this] at e'; cases e'
            · rename_i el t xs hu
              refine iLen_sound (T := T) hs.mem (by simp [isSl, hu]) he hv' rfl (fun s e' => ?_) (fun _ _ _ _ => ⟨el, hu⟩)
              obtain ⟨a', cap, e1, _⟩ := hv'
              have e1 : a.eval x = .slice a' (List.length xs) cap := by simpa using e1
              rw [e1] at e'; cases e'
            · rename_i el c' hu
              refine iLen_sound (T := T) hs.mem (by simp [isSl, hu]) he hv' rfl (fun s e' => ?_) (fun _ _ _ _ => ⟨el, hu⟩)
              obtain ⟨n, _, hval⟩ := iLen_val hs.mem he hv'
              rcases hval with ⟨a', c0, e1⟩ | ⟨s', e1, _⟩
              · rw [e1] at e'; cases e'
              · unfold iLen at he
                simp only at he
                split at he
                · rename_i t xs hl
                  have hx := hv'.2.2 t xs hl
                  unfold AllR at hx
                  cases hg : g c' with
                  | none => rw [hg] at hx; obtain ⟨a', ha⟩ := hx; rw [ha] at e'; cases e'
                  | some b => rw [hg] at hx; obtain ⟨cap, arr, ha, _⟩ := hx; rw [ha] at e'; cases e'
                · cases he
            · rename_i el c' off len hu
              refine iLen_sound (T := T) hs.mem (by simp [isSl, hu]) he hv' rfl (fun s e' => ?_) (fun _ _ _ _ => ⟨el, hu⟩)
              unfold iLen at he
              simp only at he
              split at he
              · rename_i t xs hl
                obtain ⟨_, hx⟩ := hv'.2.2 t xs hl
                rcases hx with ⟨_, _, a', ha⟩ | ⟨b, cap, arr, _, ha, _⟩
                · rw [ha] at e'; cases e'
                · rw [ha] at e'; cases e'
              · cases he
            · rename_i el hu
              refine iLen_sound (T := T) hs.mem (by simp [isSl, hu]) he hv' rfl (fun s e' => ?_) (fun _ _ _ _ => ⟨el, hu⟩)
              obtain ⟨a', ha⟩ := hv'
              rw [ha] at e'; cases e'
            · cases he
          refine (hg.runs hs).does ?_
          simp only [execOp, ho, hres #[], hargs _ hal, htys _ htl]
          rfl
        · cases he
      · rename_i s x T T' hal htl
        split at he
        · rename_i t sv xv hsv hxv
          refine (iAppend_sound (ty := o.type) hs hw he hc (ev_VR hs hsv) (ev_VR hs hxv)).does ?_
          simp only [execOp, ho, hres #[], hargs _ hal, htys _ htl]
          rfl
        · cases he
      · rename_i x y _ hal
        split at he
        · rename_i xv yv hx hy
          refine ((iMin_sound (Ts := c.argTypes) (T := o.type) he (ev_VR hs hx) (ev_VR hs hy)).runs hs).does ?_
          simp only [execOp, ho, hres #[], hargs _ hal]
          rfl
        · cases he
      · rename_i x y _ hal
        split at he
        · rename_i xv yv hx hy
          refine ((iMax_sound (Ts := c.argTypes) (T := o.type) he (ev_VR hs hx) (ev_VR hs hy)).runs hs).does ?_
          simp only [execOp, ho, hres #[], hargs _ hal]
          rfl
        · cases he
      · cases he
    · rename_i f hf
      split at he
      · rename_i ms rs outs k vs hk hvs
        have hfv : a.eval f = .func (.func k) #[] #[] := ev_VR hs hk
        obtain ⟨⟨fn, c1, c2, c3⟩, hcalls⟩ := iCall_sound hs hw he hc (evl_VR hs hvs)
        refine .inr (.inr ⟨k, (c.args.toList.map a.eval).toArray, ?_, hcalls⟩)
        have hargs : c.args.map a.eval = (c.args.toList.map a.eval).toArray := by apply Array.ext'; rw [Array.toList_map]
        simp only [execOp, ho, resolve, hf, hfv, Deferred.ofValue, Sem.run_bind, Sem.run_pure, Result.andThen_ok, invoke, callFunc, run_program, c1]
        simp only [c2, c3, hargs]
        simp
      · cases he
    · cases he
  · cases he

end
end Go.Ide
