/-
  Operations that change no memory: what they give. The others.
-/
import Derived.Test.YthkikckjkhnmlaaIdeF
namespace Go.Ide

section
variable {P : Program} {g : GM} {m : Mem} {S : Nat → Prop} {w : World}

theorem toNat_lt {n : Int} {l : Nat} (h0 : 0 ≤ n) (h1 : n < (l : Int)) : n.toNat < l := by omega
theorem nneg {n : Int} (h : 0 ≤ n) : ¬ n < 0 := by omega
theorem no_lt {n : Int} (h0 : 0 ≤ n) (h1 : n < ((0 : Nat) : Int)) : False := by omega

theorem iIndexAddr_sound {T : TypeId} {x i : IVal} {e : Eff} {xa ia : Value} (hm : ChAll g m S w) (h : iIndexAddr P m T x i = some e) (hc : AllP e.cond) (hx : VR g m S w x xa) (hi : VR g m S w i ia) :
    Gives P g m S w (Instr.indexAt T xa ia) e := by
  unfold iIndexAddr at h
  split at h
  · rename_i el k n hu
    have hia : ia = .int k n := by have : [ia] = [Value.int k n] := hi; simpa using this
    subst hia
    split at h
    · rename_i t xs kz hs
      cases hb : Nat.beq kz t.size with
      | false => simp [hb] at h
      | true =>
        rw [hb] at h
        simp only [cond_true] at h
        have hz := beq_of hb
        obtain ⟨he, hco⟩ := pureC_eq h
        rw [hco] at hc
        obtain ⟨⟨h0, h1⟩, _⟩ := hc
        obtain ⟨a, cap, e1, hcap, hel⟩ := hx
        have hxa : xa = .slice a (List.length xs) cap := by simpa using e1
        subst hxa
        have hlt : Int.toNat n < List.length xs := toNat_lt h0 h1
        obtain ⟨ad, es, ea, hS, hcell, hrep⟩ := hel n.toNat hlt
        subst ea
        refine Gives.mk he (r := .pointer (some (ad.add (n.toNat * kz)))) ?_ ⟨ad.add (n.toNat * kz), es, by simp [Addr.add], by rw [add_block]; exact hS, fun j u hj => ?_, ?_⟩
        · simp [Instr.indexAt, asIntOf, run_underlying hu, run_sizeT hs, h0, h1]
        · rw [add_add, hz]; exact hcell j u hj
        · rw [getD_eq hlt]; exact hrep
    · rename_i c kz hs
      split at h
      · rename_i t xs hl
        cases hb : Nat.beq kz t.size with
        | false => simp [hb] at h
        | true =>
          rw [hb] at h
          simp only [cond_true] at h
          obtain ⟨he, hco⟩ := pureC_eq h
          rw [hco] at hc
          obtain ⟨⟨h0, h1⟩, _⟩ := hc
          have hch := hm c _ hl
          have hall := hx.2.2 t xs hl
          unfold AllR at hall
          cases hg : g c with
          | none =>
            rw [hg] at hch
            have : xs = [] := hch
            subst this
            exact (no_lt h0 h1).elim
          | some b =>
            rw [hg] at hall
            obtain ⟨cap, arr, e1, _, hbl, _⟩ := hall
            subst e1
            refine Gives.mk he (r := .pointer (some ⟨b, n.toNat * kz, none⟩)) ?_ ⟨hx.1, b, hg, rfl⟩
            simp [Instr.indexAt, asIntOf, run_underlying hu, run_sizeT hs, h0, h1, add_none]
      · cases h
    · rename_i c off len kz hs
      split at h
      · rename_i t xs hl
        cases hb : Nat.beq kz t.size with
        | false => simp [hb] at h
        | true =>
          rw [hb] at h
          simp only [cond_true] at h
          have hz := beq_of hb
          obtain ⟨he, hco⟩ := pureC_eq h
          rw [hco] at hc
          obtain ⟨⟨h0, h1⟩, _⟩ := hc
          obtain ⟨hle, hx'⟩ := hx.2.2 t xs hl
          rcases hx' with ⟨hz0, _⟩ | ⟨b, cap, arr, hg, e1, _⟩
          · subst hz0
            exact (no_lt h0 h1).elim
          · subst e1
            refine Gives.mk he (r := .pointer (some ⟨b, (off + n.toNat) * kz, none⟩)) ?_ ⟨hx.1, b, hg, rfl⟩
            simp [Instr.indexAt, asIntOf, run_underlying hu, run_sizeT hs, h0, h1, add_none, Nat.add_mul, hz]
      · cases h
    · cases h
  · cases h

theorem iFieldAddr_sound {T : TypeId} {x : IVal} {f : Nat} {e : Eff} {xa : Value} (h : iFieldAddr P T x f = some e) (hx : VR g m S w x xa) :
    Gives P g m S w (Instr.fieldAt T xa f) e := by
  unfold iFieldAddr at h
  split at h
  · rename_i fs hu
    split at h
    · rename_i fd hf
      split at h
      · rename_i c off n hs
        obtain ⟨hp, b, hg, e1⟩ := hx
        subst e1
        refine Gives.mk (pureE_eq h) (r := .pointer (some ⟨b, off + fd.offset, none⟩)) ?_ ⟨hp, b, hg, rfl⟩
        simp [Instr.fieldAt, run_underlying hu, hf, Instr.sureAddr, fieldPlace, run_sizeT hs, add_none]
      · rename_i t y off n hs
        obtain ⟨ad, es, e1, hS, hcell, hrep⟩ := hx
        subst e1
        refine Gives.mk (pureE_eq h) (r := .pointer (some (ad.add (off + fd.offset)))) ?_ ⟨ad, es, rfl, hS, hcell, hrep⟩
        simp [Instr.fieldAt, run_underlying hu, hf, Instr.sureAddr, fieldPlace, run_sizeT hs, add_add]
      · cases h
    · cases h
  · cases h

theorem dat_int {k : IntKind} {n : Int} {v : Value} (h : CR g m S w (.dat (.int k) n) v) : v = .int k n := by
  have : [v] = [Value.int k n] := h
  simpa using this
theorem dat_bool {b : Bool} {v : Value} (h : CR g m S w (.dat .bool b) v) : v = .bool b := by
  have : [v] = [Value.bool b] := h
  simpa using this
theorem dat_str {s : List UInt8} {v : Value} (h : CR g m S w (.dat .str s) v) : v = .string ⟨s.toArray⟩ := by
  have : [v] = [Value.string ⟨s.toArray⟩] := h
  simpa using this

/-- The length that a slice's or a string's value bears. -/
theorem iLen_val {x : IVal} {e : Eff} {xa : Value} (hm : ChAll g m S w) (h : iLen m x = some e) (hx : VR g m S w x xa) :
    ∃ n : Nat, (e.new = [] ∧ e.upd = [] ∧ e.val = .one (.dat (.int .i64) ((n : Nat) : Int))) ∧ ((∃ a c, xa = .slice a n c) ∨ (∃ s : ByteArray, xa = .string s ∧ s.size = n)) := by
  unfold iLen at h
  split at h
  · rename_i t xs
    obtain ⟨a, cap, e1, _⟩ := hx
    exact ⟨_, pureE_eq h, .inl ⟨a, cap, by simpa using e1⟩⟩
  · rename_i xs
    have := dat_str (g := g) (m := m) (S := S) (w := w) hx
    exact ⟨_, pureE_eq h, .inr ⟨_, this, by simp [ByteArray.size]⟩⟩
  · rename_i c
    split at h
    · rename_i t xs hl
      have hall := hx.2.2 t xs hl
      unfold AllR at hall
      cases hg : g c with
      | none =>
        rw [hg] at hall
        obtain ⟨a, ha⟩ := hall
        have hch := hm c _ hl
        rw [hg] at hch
        have : xs = [] := hch
        subst this
        exact ⟨0, pureE_eq h, .inl ⟨a, 0, ha⟩⟩
      | some b =>
        rw [hg] at hall
        obtain ⟨cap, arr, e1, _⟩ := hall
        exact ⟨_, pureE_eq h, .inl ⟨_, cap, e1⟩⟩
    · cases h
  · rename_i c off len
    split at h
    · rename_i t xs hl
      obtain ⟨_, hx'⟩ := hx.2.2 t xs hl
      rcases hx' with ⟨hz0, _, a, ha⟩ | ⟨b, cap, arr, hg, e1, _⟩
      · subst hz0
        exact ⟨_, pureE_eq h, .inl ⟨a, 0, ha⟩⟩
      · exact ⟨_, pureE_eq h, .inl ⟨_, cap, e1⟩⟩
    · cases h
  · obtain ⟨a, ha⟩ := hx
    exact ⟨0, pureE_eq h, .inl ⟨a, 0, ha⟩⟩
  · cases h

def isSl (P : Program) (T : TypeId) : Bool :=
  match P.underlying T with
  | some (.slice _) => true
  | some .string => true
  | _ => false

theorem iLen_sound {T ty : TypeId} {x : IVal} {e : Eff} {xa : Value} {Ts : Array TypeId} (hm : ChAll g m S w) (hT : isSl P T = true) (h : iLen m x = some e) (hx : VR g m S w x xa)
    (hTs : Ts[0]? = some T) (hk : ∀ (s : ByteArray), xa = .string s → P.underlying T = some .string) (hk' : ∀ a n c, xa = .slice a n c → ∃ el, P.underlying T = some (.slice el)) :
    Gives P g m S w (Builtin.len_ Ts ty #[xa]) e := by
  obtain ⟨n, he, hv⟩ := iLen_val hm h hx
  refine Gives.mk he (r := .int .i64 (n : Int)) ?_ rfl
  rcases hv with ⟨a, c, rfl⟩ | ⟨s, rfl, hs⟩
  · obtain ⟨el, hu⟩ := hk' a n c rfl
    simp [Builtin.len_, hTs, run_underlying hu, goInt]
  · simp [Builtin.len_, hTs, run_underlying (hk s rfl), goInt, hs]

theorem iInt_sound {op : BinOp} {k : IntKind} {x y : Int} {e : Eff} {T : TypeId} (hs : isShift op = false) (h : iInt op k x y = some e) (hc : AllP e.cond) :
    Gives P g m S w (binOp op T (.int k x) (.int k y)) e := by
  cases op <;> simp only [isShift, Bool.true_eq_false] at hs <;> simp only [iInt, bitsI] at h
  case add => exact Gives.mk (pureE_eq h) (by simp [binOp, Op.intArith]) rfl
  case sub => exact Gives.mk (pureE_eq h) (by simp [binOp, Op.intArith]) rfl
  case mul => exact Gives.mk (pureE_eq h) (by simp [binOp, Op.intArith]) rfl
  case quo =>
    obtain ⟨he, hco⟩ := pureC_eq h
    rw [hco] at hc
    have hy : ¬ y = 0 := hc.1
    exact Gives.mk he (r := .int k (k.wrap (x.tdiv y))) (by simp [binOp, Op.intDiv, hy]) rfl
  case rem =>
    obtain ⟨he, hco⟩ := pureC_eq h
    rw [hco] at hc
    have hy : ¬ y = 0 := hc.1
    exact Gives.mk he (r := .int k (x.tmod y)) (by simp [binOp, Op.intDiv, hy]) rfl
  case eql => exact Gives.mk (pureE_eq h) (by simp [binOp, Op.intCmp]) rfl
  case neq => exact Gives.mk (pureE_eq h) (by simp [binOp, Op.intCmp]) rfl
  case lss => exact Gives.mk (pureE_eq h) (by simp [binOp, Op.intCmp]) rfl
  case leq => exact Gives.mk (pureE_eq h) (by simp [binOp, Op.intCmp]) rfl
  case gtr => exact Gives.mk (pureE_eq h) (by simp [binOp, Op.intCmp]) rfl
  case geq => exact Gives.mk (pureE_eq h) (by simp [binOp, Op.intCmp]) rfl
  case and => exact Gives.mk (pureE_eq h) (by simp [binOp, Op.intBits]) rfl
  case or => exact Gives.mk (pureE_eq h) (by simp [binOp, Op.intBits]) rfl
  case xor => exact Gives.mk (pureE_eq h) (by simp [binOp, Op.intBits]) rfl
  case andNot => exact Gives.mk (pureE_eq h) (by simp [binOp, Op.intBits]) rfl
  all_goals cases h

theorem toList_str (a : List UInt8) : (⟨a.toArray⟩ : ByteArray).toList = a := by
  rw [ByteArray.toList_eq]

theorem run_eq_bool {T : TypeId} (hu : P.underlying T = some .bool) (a b : Bool) : (Op.equal T (.bool a) (.bool b)).run P w = .ok (a == b) w := by
  have h : ∀ d : Nat, (Op.equalIn (d + 1) T (.bool a) (.bool b)).run P w = .ok (a == b) w := fun d => by
    rw [Op.equalIn]
    simp [run_underlying hu]
  exact h 9999

theorem iBin_sound {op : BinOp} {x y : IVal} {e : Eff} {T : TypeId} {xa ya : Value} (h : iBin P T op x y = some e) (hc : AllP e.cond) (hx : VR g m S w x xa) (hy : VR g m S w y ya) :
    Gives P g m S w (binOp op T xa ya) e := by
  unfold iBin at h
  split at h
  · rename_i k a k' b
    have e1 := dat_int (g := g) (m := m) (S := S) (w := w) hx
    have e2 := dat_int (g := g) (m := m) (S := S) (w := w) hy
    subst e1
    subst e2
    split at h
    · rename_i hs
      cases op <;> simp only [isShift, Bool.false_eq_true] at hs <;> simp only [iShift] at h
      all_goals
        obtain ⟨he, hco⟩ := pureC_eq h
        rw [hco] at hc
        have h0 : ¬ b < 0 := nneg hc.1
        exact Gives.mk he (by simp [binOp, Op.shift, h0]) rfl
    · rename_i hs
      split at h
      · rename_i hk
        subst hk
        exact iInt_sound (by simpa using hs) h hc
      · cases h
  · rename_i a b
    have e1 := dat_str (g := g) (m := m) (S := S) (w := w) hx
    have e2 := dat_str (g := g) (m := m) (S := S) (w := w) hy
    subst e1
    subst e2
    unfold iStr at h
    split at h
    · exact Gives.mk (pureE_eq h) (r := .bool (a == b)) (by simp [binOp, Op.stringOp, toList_str]) rfl
    · exact Gives.mk (pureE_eq h) (r := .bool (a != b)) (by simp [binOp, Op.stringOp, toList_str, bne]) rfl
    · obtain ⟨he, hco⟩ := pureC_eq h
      rw [hco] at hc
      have h0 : a.length + b.length ≤ appMax := hc.1
      refine Gives.mk he (r := .string ⟨(a ++ b).toArray⟩) ?_ rfl
      have h1 : ¬ (((⟨a.toArray⟩ : ByteArray).size + (⟨b.toArray⟩ : ByteArray).size : Nat) : Int) > IntKind.i64.max := by
        simp only [ByteArray.size, List.size_toArray]
        unfold appMax at h0
        have : IntKind.i64.max = 9223372036854775807 := by decide
        rw [this]
        omega
      simp only [binOp, Op.stringOp]
      rw [if_neg h1]
      simp [ByteArray.append_eq, ByteArray.ext_iff]
    · exact Gives.mk (pureE_eq h) (r := .bool (Op.bytesLess a b)) (by simp [binOp, Op.stringOp, toList_str]) rfl
    · cases h
  · rename_i a b
    have e1 := dat_bool (g := g) (m := m) (S := S) (w := w) hx
    have e2 := dat_bool (g := g) (m := m) (S := S) (w := w) hy
    subst e1
    subst e2
    split at h
    · rename_i hu
      exact Gives.mk (pureE_eq h) (r := .bool (a == b)) (by simp only [binOp]; simp [run_eq_bool hu]) rfl
    · rename_i hu
      exact Gives.mk (pureE_eq h) (r := .bool (a != b)) (by simp only [binOp]; simp [run_eq_bool hu, bne]) rfl
    · cases h
  · cases h

end
end Go.Ide
