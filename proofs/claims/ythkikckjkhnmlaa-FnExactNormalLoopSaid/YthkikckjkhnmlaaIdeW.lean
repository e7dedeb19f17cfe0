/-
  An operation's effect hangs only on what it looks at.
-/
import Derived.Test.YthkikckjkhnmlaaIdeV
namespace Go.Ide

def MM (m m' : Mem) : Prop := ∀ k ch, lk k m = some ch → lk k m' = some ch

section
variable {P : Program} {m m' : Mem}

theorem cdat_mono (h : MM m m') {t : Ty} {c : ICell} {x : t.D} (he : cdat m t c = some x) : cdat m' t c = some x := by
  cases c with
  | all c =>
    simp only [cdat] at he ⊢
    split at he
    · cases hx : lk c m with
      | none => simp [hx] at he
      | some ch => rw [hx] at he; rw [h _ _ hx]; exact he
    · cases he
  | ref c off len =>
    simp only [cdat] at he ⊢
    split at he
    · cases hx : lk c m with
      | none => simp [hx] at he
      | some ch => rw [hx] at he; rw [h _ _ hx]; exact he
    · cases he
  | _ => exact he

theorem impl1_mono (h : MM m m') {t : Ty} {cs : List ICell} {x : t.D × List ICell} (he : impl1 m t cs = some x) : impl1 m' t cs = some x := by
  cases cs with
  | nil => exact he
  | cons c r =>
    simp only [impl1] at he ⊢
    cases hx : cdat m t c with
    | none => simp [hx] at he
    | some y => rw [hx] at he; rw [cdat_mono h hx]; exact he

theorem impl_mono (h : MM m m') : ∀ (t : Ty) {cs : List ICell} {x : t.D × List ICell}, impl m t cs = some x → impl m' t cs = some x
  | .int _, _, _, he => impl1_mono h he
  | .flt _, _, _, he => impl1_mono h he
  | .bool, _, _, he => impl1_mono h he
  | .str, _, _, he => impl1_mono h he
  | .sl _, _, _, he => impl1_mono h he
  | .st t, _, _, he => impl_mono h t he
  | .pair a b, cs, x, he => by
    simp only [impl] at he ⊢
    cases h1 : impl m a cs with
    | none => simp [h1] at he
    | some p =>
      obtain ⟨y, r⟩ := p
      rw [h1] at he
      rw [impl_mono h a h1]
      simp only at he ⊢
      cases h2 : impl m b r with
      | none => simp [h2] at he
      | some q =>
        rw [h2] at he
        rw [impl_mono h b h2]
        exact he

theorem vdat_mono (h : MM m m') {t : Ty} {v : IVal} {x : t.D} (he : vdat m t v = some x) : vdat m' t v = some x := by
  unfold vdat at he ⊢
  split at he
  · rename_i c hst
    cases h1 : impl m t [c] with
    | none => simp [h1] at he
    | some p => rw [h1] at he; (try simp only [hst]); rw [impl_mono h t h1]; exact he
  · rename_i cs hst
    cases h1 : impl m t cs with
    | none => simp [h1] at he
    | some p => rw [h1] at he; (try simp only [hst]); rw [impl_mono h t h1]; exact he
  · cases he

theorem iLoad_mono (h : MM m m') {T : TypeId} {v : IVal} {e : Eff} (he : iLoad P m T v = some e) : iLoad P m' T v = some e := by
  unfold iLoad at he ⊢
  split at he
  · rename_i c i sz n ag hs ha
    try simp only [hs, ha]
    cases hx : lk c m with
    | none => simp [hx] at he
    | some ch => rw [hx] at he; rw [h _ _ hx]; exact he
  · rename_i c n ag hne hs ha
    try simp only [hs, ha]
    have key : ∀ r, cellsAt m n c = some r → cellsAt m' n c = some r := by
      intro r hr
      cases c with
      | ptr k off =>
        simp only [cellsAt] at hr ⊢
        cases hx : lk k m with
        | none => simp [hx] at hr
        | some ch => rw [hx] at hr; rw [h _ _ hx]; exact hr
      | _ => exact hr
    cases hc : cellsAt m n c with
    | none => simp [hc] at he
    | some r =>
      rw [hc] at he
      cases c with
      | elp k i sz => exact absurd rfl (hne k i sz)
      | _ => simp only [key _ hc]; exact he
  · cases he

theorem iStore_mono (h : MM m m') {T : TypeId} {a v : IVal} {e : Eff} (he : iStore P m T a v = some e) : iStore P m' T a v = some e := by
  unfold iStore at he ⊢
  split at he
  · rename_i c off n hs
    try simp only [hs]
    cases hx : lk c m with
    | none => simp [hx] at he
    | some ch => rw [hx] at he; rw [h _ _ hx]; exact he
  · rename_i c i sz n hs
    try simp only [hs]
    cases hx : lk c m with
    | none => simp [hx] at he
    | some ch => rw [hx] at he; rw [h _ _ hx]; exact he
  · cases he

theorem iIndexAddr_mono (h : MM m m') {T : TypeId} {x i : IVal} {e : Eff} (he : iIndexAddr P m T x i = some e) : iIndexAddr P m' T x i = some e := by
  unfold iIndexAddr at he ⊢
  split at he
  · rename_i el k n hu
    try simp only [hu]
    split at he
    · rename_i t xs kz hs
      try simp only [hs]
      exact he
    · rename_i c kz hs
      try simp only [hs]
      cases hx : lk c m with
      | none => simp [hx] at he
      | some ch => rw [hx] at he; rw [h _ _ hx]; exact he
    · rename_i c off len kz hs
      try simp only [hs]
      cases hx : lk c m with
      | none => simp [hx] at he
      | some ch => rw [hx] at he; rw [h _ _ hx]; exact he
    · cases he
  · cases he

theorem iLen_mono (h : MM m m') {x : IVal} {e : Eff} (he : iLen m x = some e) : iLen m' x = some e := by
  unfold iLen at he ⊢
  split at he
  · exact he
  · exact he
  · rename_i c
    try simp only
    cases hx : lk c m with
    | none => simp [hx] at he
    | some ch => rw [hx] at he; rw [h _ _ hx]; exact he
  · rename_i c off len
    try simp only
    cases hx : lk c m with
    | none => simp [hx] at he
    | some ch => rw [hx] at he; rw [h _ _ hx]; exact he
  · exact he
  · cases he

theorem iLenT_mono (h : MM m m') {T : TypeId} {x : IVal} {e : Eff} (he : iLenT P m T x = some e) : iLenT P m' T x = some e := by
  unfold iLenT at he ⊢
  split at he
  all_goals first
    | (rename_i hu; (try simp only [hu]); exact iLen_mono h he)
    | cases he

theorem appBase_mono (h : MM m m') {t : Ty} {x : IVal} {r : List t.D × List (Nat × Chunk)} (he : appBase m t x = some r) : appBase m' t x = some r := by
  unfold appBase at he ⊢
  split at he
  · exact he
  · rename_i c
    try simp only
    cases hx : lk c m with
    | none => simp [hx] at he
    | some ch => rw [hx] at he; rw [h _ _ hx]; exact he
  · rename_i c len
    try simp only
    cases hx : lk c m with
    | none => simp [hx] at he
    | some ch => rw [hx] at he; rw [h _ _ hx]; exact he
  · cases he

theorem iAppend_mono (h : MM m m') {nx : Nat} {T T' : TypeId} {t : Ty} {s x : IVal} {e : Eff} (he : iAppend P m nx T T' t s x = some e) : iAppend P m' nx T T' t s x = some e := by
  unfold iAppend at he ⊢
  split at he
  · rename_i el hu
    split at he
    · rename_i i hi
      try simp only [hi]
      cases hb : ((Nat.beq T T' && Nat.beq i.size t.size) && (Nat.ble i.bytes 32768 && i.zero.isSome) && (i.zero.map fun z => Nat.beq z.cells.size t.size).getD false) with
      | false => rw [hb] at he; cases he
      | true =>
        rw [hb] at he
        simp only [cond_true] at he ⊢
        cases h1 : appBase m t s with
        | none => simp [h1] at he
        | some r =>
          cases h2 : vdat m (.sl t) x with
          | none => simp [h1, h2] at he
          | some ys =>
            rw [h1, h2] at he
            rw [appBase_mono h h1, vdat_mono h h2]
            exact he
    · cases he
  · cases he

theorem iSlice_mono (h : MM m m') {T : TypeId} {x : IVal} {lo hi : Option IVal} {e : Eff} (he : iSlice P m T x lo hi = some e) : iSlice P m' T x lo hi = some e := by
  unfold iSlice at he ⊢
  split at he
  · rename_i xs hu; (try simp only [hu]); exact he
  · rename_i el t xs hu; (try simp only [hu]); exact he
  · rename_i el c hu
    try simp only [hu]
    cases hx : lk c m with
    | none => simp [hx] at he
    | some ch => rw [hx] at he; rw [h _ _ hx]; exact he
  · rename_i el c off len hu
    try simp only [hu]
    cases hx : lk c m with
    | none => simp [hx] at he
    | some ch => rw [hx] at he; rw [h _ _ hx]; exact he
  · cases he

theorem ownKeys_any : ∀ (t : Ty) (cs : List ICell), ownKeys m t cs = ownKeys m' t cs
  | .int _, _ => rfl
  | .flt _, _ => rfl
  | .bool, _ => rfl
  | .str, _ => rfl
  | .sl _, _ => rfl
  | .st t, cs => ownKeys_any t cs
  | .pair a b, cs => by
    try simp only [ownKeys, ownKeys_any a cs]
    cases ownKeys m' a cs with
    | none => rfl
    | some p => obtain ⟨x, r⟩ := p; simp only [ownKeys_any b r]

theorem ownKeysAll_any : ∀ (ms : List Mode) (vs : List IVal), ownKeysAll m ms vs = ownKeysAll m' ms vs
  | [], [] => rfl
  | [], _ :: _ => rfl
  | .own t :: ms, v :: vs => by simp only [ownKeysAll]; rw [ownKeys_any (m' := m') t v.cells, ownKeysAll_any ms vs]
  | .imm _ :: ms, _ :: vs => ownKeysAll_any ms vs
  | .pimm _ :: ms, _ :: vs => ownKeysAll_any ms vs
  | .fn :: ms, _ :: vs => ownKeysAll_any ms vs
  | .own _ :: _, [] => rfl
  | .imm _ :: _, [] => rfl
  | .pimm _ :: _, [] => rfl
  | .fn :: _, [] => rfl

theorem argOf_mono (h : MM m m') {md : Mode} {v : IVal} {a : Arg} (he : argOf m md v = some a) : argOf m' md v = some a := by
  unfold argOf at he ⊢
  split at he
  · rename_i v1 t
    try simp only
    cases h1 : vdat m t v with
    | none => simp [h1] at he
    | some x => rw [h1] at he; rw [vdat_mono h h1]; exact he
  · rename_i v1 t
    try simp only
    cases h1 : vdat m t v with
    | none => simp [h1] at he
    | some x => rw [h1] at he; rw [vdat_mono h h1]; exact he
  · rename_i t t' x off
    try simp only
    cases h1 : impl m t (((expl t' x).drop off).take t.size) with
    | none => simp [h1] at he
    | some p => rw [h1] at he; rw [impl_mono h t h1]; exact he
  · exact he
  · cases he

theorem argP_mono {m2 m2' : Mem} (h : MM m m') (h2 : MM m2 m2') {md : Mode} {v : IVal} {a : Arg} (he : argP m m2 md v = some a) : argP m' m2' md v = some a := by
  unfold argP at he ⊢
  split at he
  · rename_i t c off
    try simp only
    cases hx : lk c m with
    | none => simp [hx] at he
    | some ch =>
      rw [hx] at he
      rw [h _ _ hx]
      cases ch with
      | box cs =>
        simp only at he ⊢
        cases h1 : impl m2 t ((cs.drop off).take t.size) with
        | none => simp [h1] at he
        | some p => rw [h1] at he; rw [impl_mono h2 t h1]; exact he
      | seq t' xs => cases he
      | gone => cases he
  · exact argOf_mono h2 he

theorem argsOf_mono {m2 m2' : Mem} (h : MM m m') (h2 : MM m2 m2') : ∀ {ms : List Mode} {vs : List IVal} {as : List Arg}, argsOf m m2 ms vs = some as → argsOf m' m2' ms vs = some as := by
  intro ms
  induction ms with
  | nil => intro vs as he; cases vs <;> exact he
  | cons md ms ih =>
    intro vs as he
    cases vs with
    | nil => cases md <;> exact he
    | cons v vs =>
      cases md with
      | own t =>
        simp only [argsOf] at he ⊢
        cases h1 : argOf m (.own t) v with
        | none => simp [h1] at he
        | some a =>
          cases h3 : argsOf m m2 ms vs with
          | none => simp [h1, h3] at he
          | some l => rw [h1, h3] at he; rw [argOf_mono h h1, ih h3]; exact he
      | imm t =>
        simp only [argsOf] at he ⊢
        cases h1 : argP m m2 (.imm t) v with
        | none => simp [h1] at he
        | some a =>
          cases h3 : argsOf m m2 ms vs with
          | none => simp [h1, h3] at he
          | some l => rw [h1, h3] at he; rw [argP_mono h h2 h1, ih h3]; exact he
      | pimm t =>
        simp only [argsOf] at he ⊢
        cases h1 : argP m m2 (.pimm t) v with
        | none => simp [h1] at he
        | some a =>
          cases h3 : argsOf m m2 ms vs with
          | none => simp [h1, h3] at he
          | some l => rw [h1, h3] at he; rw [argP_mono h h2 h1, ih h3]; exact he
      | fn =>
        simp only [argsOf] at he ⊢
        cases h1 : argP m m2 .fn v with
        | none => simp [h1] at he
        | some a =>
          cases h3 : argsOf m m2 ms vs with
          | none => simp [h1, h3] at he
          | some l => rw [h1, h3] at he; rw [argP_mono h h2 h1, ih h3]; exact he

theorem MM.app {l : Mem} (h : MM m m') : MM (l ++ m) (l ++ m') := fun k ch hk => by
  rw [lk_append] at hk ⊢
  cases hx : lk k l with
  | none => rw [hx] at hk; exact h k ch (by simpa using hk)
  | some c => rw [hx] at hk; simpa using hk

theorem iCall_mono (h : MM m m') {nx : Nat} {ms : List Mode} {rs : List RV} {outs : List TD} {f : FuncId} {vs : List IVal} {e : Eff} (he : iCall P m nx ms rs outs f vs = some e) : iCall P m' nx ms rs outs f vs = some e := by
  unfold iCall at he ⊢
  rw [ownKeysAll_any (m := m') (m' := m)]
  split at he
  · rename_i ks up hk hu
    try simp only [hk, hu]
    split at he
    · rename_i as has
      try simp only [has]
      exact he
    · rename_i has
      try simp only [has]
      cases hb : ((rs.all RV.okAlone && modesFlat ms) && nodupB ks) with
      | false => rw [hb] at he; cases he
      | true =>
        rw [hb] at he
        simp only [cond_true] at he ⊢
        cases h3 : argsOf m ((ks.map fun k => (k, Chunk.gone)) ++ m) ms vs with
        | none => simp [h3] at he
        | some as => rw [h3] at he; rw [argsOf_mono h (MM.app h) h3]; exact he
  · cases he

theorem iBuiltin_mono (h : MM m m') {fr : Fr} {nx : Nat} {hh : Hint} {b : Builtin} {args : List Operand} {ts : List TypeId} {e : Eff} (he : iBuiltin P fr m nx hh b args ts = some e) : iBuiltin P fr m' nx hh b args ts = some e := by
  unfold iBuiltin at he ⊢
  split at he
  · rename_i x T
    try simp only
    split at he
    · rename_i v hv; (try simp only [hv]); exact iLenT_mono h he
    · cases he
  · rename_i s x T T'
    try simp only
    split at he
    · rename_i t sv xv hs hx; (try simp only [hs, hx]); exact iAppend_mono h he
    · cases he
  · exact he
  · exact he
  · cases he

theorem iop_mono (h : MM m m') {fr : Fr} {nx : Nat} {hh : Hint} {o : Oper} {e : Eff} (he : iop P fr m nx hh o = some e) : iop P fr m' nx hh o = some e := by
  unfold iop at he ⊢
  split at he
  case h_8 T x ho =>
    try simp only
    split at he
    · rename_i v hv; (try simp only [hv]); exact iLoad_mono h he
    · cases he
  case h_9 T x y ho =>
    try simp only
    split at he
    · rename_i xv yv hx hy; (try simp only [hx, hy]); exact iStore_mono h he
    · cases he
  case h_15 T x lo hi ho =>
    try simp only
    split at he
    · rename_i v l h' hv hl hh; (try simp only [hv, hl, hh]); exact iSlice_mono h he
    · cases he
  case h_17 T x i ho =>
    try simp only
    split at he
    · rename_i v j hv hj; (try simp only [hv, hj]); exact iIndexAddr_mono h he
    · cases he
  case h_20 c ho =>
    try simp only
    split at he
    · rename_i b hb; (try simp only [hb]); exact iBuiltin_mono h he
    · rename_i f hf
      try simp only [hf]
      split at he
      · rename_i ms rs outs k vs hk hvs; (try simp only [hk, hvs]); exact iCall_mono h he
      · cases he
    · cases he
  all_goals first
    | exact he
    | cases he

end
end Go.Ide
