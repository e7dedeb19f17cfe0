import Derived.Test.YtcdcholgpdladaaLibA
import Derived.Laws.FloatArith
import Derived.Lib.ConvBytes
import Derived.Laws.BytesString
set_option linter.unusedVariables false
set_option linter.unusedSimpArgs false
set_option linter.unusedSectionVars false
/-
  More operations: floats; bytes and strings; what is appended out of a string; slices with a third bound.
-/
namespace Go.Ide

/-- The number that stands for all that are none. -/
def fnan : FloatKind → Nat
  | .f32 => 2143289344
  | .f64 => 9221120237041090560

def fop (op : BinOp) (k : FloatKind) (x y : Nat) : Nat :=
  match floatBits op k x y with
  | some r => fcanon k r
  | none => fnan k

def fneg (k : FloatKind) (x : Nat) : Nat := fcanon k (Op.negFloat k x)
def fofint (k : FloatKind) (n : Int) : Nat := fcanon k (k.nearest n)

def feq (k : FloatKind) (x y : Nat) : Bool := k.format.order x y == some .eq
def flt (k : FloatKind) (x y : Nat) : Bool := k.format.order x y == some .lt
def fle (k : FloatKind) (x y : Nat) : Bool := k.format.order x y == some .lt || k.format.order x y == some .eq
def fgt (k : FloatKind) (x y : Nat) : Bool := k.format.order x y == some .gt
def fge (k : FloatKind) (x y : Nat) : Bool := k.format.order x y == some .gt || k.format.order x y == some .eq

/-- May a float become one of another kind without a draw of its value? -/
def fconvOK (s k : FloatKind) (x : Nat) : Bool :=
  if s = k then true else match s.decode x with
  | .number sg m e => !(k.decode (k.encode (.number sg m e))).isInfinity
  | _ => true
def fconv (s k : FloatKind) (x : Nat) : Nat :=
  if s = k then x else match s.decode x with
  | .nan _ _ => fnan k
  | .infinity sg => fcanon k (k.encode (.infinity sg))
  | .number sg m e => fcanon k (k.encode (.number sg m e))

theorem fc32 (b : Nat) : fcanon .f32 b = if b % 2147483648 > 2139095040 then 2143289344 else b := rfl
theorem fc64 (b : Nat) : fcanon .f64 b = if b % 9223372036854775808 > 9218868437227405312 then 9221120237041090560 else b := rfl

theorem canon_or (k : FloatKind) (b : Nat) : fcanon k b = b ∨ ∃ s t s' t', k.format.read b = .nan s t ∧ k.format.read (fcanon k b) = .nan s' t' := by
  cases k
  · rw [fc32]
    by_cases h : b % 2147483648 > 2139095040
    · rw [if_pos h]
      right
      refine ⟨(b / 2147483648 % 2 == 1), b % 2147483648 - 2139095040, _, _, ?_, rfl⟩
      have e1 : FloatKind.f32.format.signWeight = 2147483648 := by decide
      have e2 : FloatKind.f32.format.binade = 8388608 := by decide
      have e3 : FloatKind.f32.format.infRung = 2139095040 := by decide
      unfold Ieee.Format.read
      simp only [e1, e2, e3]
      rw [if_neg (by omega), if_neg (by omega), if_neg (by omega)]
    · rw [if_neg h]; exact .inl rfl
  · rw [fc64]
    by_cases h : b % 9223372036854775808 > 9218868437227405312
    · rw [if_pos h]
      right
      refine ⟨(b / 9223372036854775808 % 2 == 1), b % 9223372036854775808 - 9218868437227405312, _, _, ?_, rfl⟩
      have e1 : FloatKind.f64.format.signWeight = 9223372036854775808 := by decide
      have e2 : FloatKind.f64.format.binade = 4503599627370496 := by decide
      have e3 : FloatKind.f64.format.infRung = 9218868437227405312 := by decide
      unfold Ieee.Format.read
      simp only [e1, e2, e3]
      rw [if_neg (by omega), if_neg (by omega), if_neg (by omega)]
    · rw [if_neg h]; exact .inl rfl

theorem sum_nan1 {s : Bool} {t : Nat} {d : Ieee.Datum} : Ieee.Datum.sum (.nan s t) d = none := by cases d <;> rfl
theorem sum_nan2 {s : Bool} {t : Nat} {d : Ieee.Datum} : Ieee.Datum.sum d (.nan s t) = none := by cases d <;> rfl
theorem prod_nan1 {s : Bool} {t : Nat} {d : Ieee.Datum} : Ieee.Datum.product (.nan s t) d = none := by cases d <;> rfl
theorem prod_nan2 {s : Bool} {t : Nat} {d : Ieee.Datum} : Ieee.Datum.product d (.nan s t) = none := by cases d <;> rfl
theorem quo_nan1 {n : Nat} {s : Bool} {t : Nat} {d : Ieee.Datum} : Ieee.Datum.quotient n (.nan s t) d = none := by cases d <;> rfl
theorem quo_nan2 {n : Nat} {s : Bool} {t : Nat} {d : Ieee.Datum} : Ieee.Datum.quotient n d (.nan s t) = none := by cases d <;> rfl
theorem ord_nan1 {s : Bool} {t : Nat} {d : Ieee.Datum} : Ieee.Datum.order (.nan s t) d = none := by cases d <;> rfl
theorem ord_nan2 {s : Bool} {t : Nat} {d : Ieee.Datum} : Ieee.Datum.order d (.nan s t) = none := by cases d <;> rfl

theorem floatBits_canon (op : BinOp) (k : FloatKind) (x y : Nat) : floatBits op k (fcanon k x) (fcanon k y) = floatBits op k x y := by
  have h1 : ∀ x y, floatBits op k (fcanon k x) y = floatBits op k x y := by
    intro x y
    rcases canon_or k x with h | ⟨s, t, s', t', q1, q2⟩
    · rw [h]
    · unfold floatBits
      cases op <;> simp only [Ieee.Format.add, Ieee.Format.sub, Ieee.Format.mul, Ieee.Format.div, q1, q2, sum_nan1, prod_nan1, quo_nan1]
  have h2 : ∀ x y, floatBits op k x (fcanon k y) = floatBits op k x y := by
    intro x y
    rcases canon_or k y with h | ⟨s, t, s', t', q1, q2⟩
    · rw [h]
    · unfold floatBits
      cases op <;> simp only [Ieee.Format.add, Ieee.Format.sub, Ieee.Format.mul, Ieee.Format.div, q1, q2, sum_nan2, prod_nan2, quo_nan2, Ieee.Datum.opposite]
  rw [h1, h2]

theorem order_canon (k : FloatKind) (x y : Nat) : k.format.order (fcanon k x) (fcanon k y) = k.format.order x y := by
  have h1 : ∀ x y, k.format.order (fcanon k x) y = k.format.order x y := by
    intro x y
    rcases canon_or k x with h | ⟨s, t, s', t', q1, q2⟩
    · rw [h]
    · unfold Ieee.Format.order; rw [q1, q2, ord_nan1, ord_nan1]
  have h2 : ∀ x y, k.format.order x (fcanon k y) = k.format.order x y := by
    intro x y
    rcases canon_or k y with h | ⟨s, t, s', t', q1, q2⟩
    · rw [h]
    · unfold Ieee.Format.order; rw [q1, q2, ord_nan2, ord_nan2]
  rw [h1, h2]

theorem neg_canon (k : FloatKind) (b : Nat) : fcanon k (Op.negFloat k (fcanon k b)) = fcanon k (Op.negFloat k b) := by
  cases k
  · have e : ∀ b, Op.negFloat .f32 b = b ^^^ 2147483648 := fun b => rfl
    have hm : ∀ b, (b ^^^ 2147483648) % 2147483648 = b % 2147483648 := fun b => by
      have := Nat.xor_mod_two_pow (a := b) (b := 2147483648) (n := 31)
      simpa using this
    simp only [e]
    by_cases h : b % 2147483648 > 2139095040
    · have h1 : fcanon .f32 b = 2143289344 := by rw [fc32, if_pos h]
      have h2 : fcanon .f32 (b ^^^ 2147483648) = 2143289344 := by rw [fc32, hm, if_pos h]
      rw [h1, h2]; decide
    · have h1 : fcanon .f32 b = b := by rw [fc32, if_neg h]
      rw [h1]
  · have e : ∀ b, Op.negFloat .f64 b = b ^^^ 9223372036854775808 := fun b => rfl
    have hm : ∀ b, (b ^^^ 9223372036854775808) % 9223372036854775808 = b % 9223372036854775808 := fun b => by
      have := Nat.xor_mod_two_pow (a := b) (b := 9223372036854775808) (n := 63)
      simpa using this
    simp only [e]
    by_cases h : b % 9223372036854775808 > 9218868437227405312
    · have h1 : fcanon .f64 b = 9221120237041090560 := by rw [fc64, if_pos h]
      have h2 : fcanon .f64 (b ^^^ 9223372036854775808) = 9221120237041090560 := by rw [fc64, hm, if_pos h]
      rw [h1, h2]; decide
    · have h1 : fcanon .f64 b = b := by rw [fc64, if_neg h]
      rw [h1]

theorem cut_nan (k : FloatKind) (x y t : Nat) : fcanon k (Question.cut (.nanBits k x y) t) = fnan k := by
  cases k
  · have e : Question.cut (.nanBits .f32 x y) t = (t % 2) * 2147483648 + 2139095040 + 1 + (t / 2) % 8388607 := rfl
    have h1 := Nat.mod_lt t (show 0 < 2 by decide)
    have h2 := Nat.mod_lt (t / 2) (show 0 < 8388607 by decide)
    rw [e, fc32]
    generalize t % 2 = p at h1
    generalize t / 2 % 8388607 = q at h2
    rw [if_pos (by omega)]; rfl
  · have e : Question.cut (.nanBits .f64 x y) t = (t % 2) * 9223372036854775808 + 9218868437227405312 + 1 + (t / 2) % 4503599627370495 := rfl
    have h1 := Nat.mod_lt t (show 0 < 2 by decide)
    have h2 := Nat.mod_lt (t / 2) (show 0 < 4503599627370495 by decide)
    rw [e, fc64]
    generalize t % 2 = p at h1
    generalize t / 2 % 4503599627370495 = q at h2
    rw [if_pos (by omega)]; rfl
theorem cut_nanc (k : FloatKind) (x t : Nat) : fcanon k (Question.cut (.nanConv k x) t) = fnan k := by
  cases k
  · have e : Question.cut (.nanConv .f32 x) t = (t % 2) * 2147483648 + 2139095040 + 1 + (t / 2) % 8388607 := rfl
    have h1 := Nat.mod_lt t (show 0 < 2 by decide)
    have h2 := Nat.mod_lt (t / 2) (show 0 < 8388607 by decide)
    rw [e, fc32]
    generalize t % 2 = p at h1
    generalize t / 2 % 8388607 = q at h2
    rw [if_pos (by omega)]; rfl
  · have e : Question.cut (.nanConv .f64 x) t = (t % 2) * 9223372036854775808 + 9218868437227405312 + 1 + (t / 2) % 4503599627370495 := rfl
    have h1 := Nat.mod_lt t (show 0 < 2 by decide)
    have h2 := Nat.mod_lt (t / 2) (show 0 < 4503599627370495 by decide)
    rw [e, fc64]
    generalize t % 2 = p at h1
    generalize t / 2 % 4503599627370495 = q at h2
    rw [if_pos (by omega)]; rfl

theorem fconv_canon (s k : FloatKind) (b : Nat) (h : s ≠ k) : fconvOK s k (fcanon s b) = fconvOK s k b ∧ fconv s k (fcanon s b) = fconv s k b := by
  rcases canon_or s b with e | ⟨sg, t, sg', t', h1, h2⟩
  · rw [e]; exact ⟨rfl, rfl⟩
  · have h1 : s.decode b = .nan sg t := h1
    have h2 : s.decode (fcanon s b) = .nan sg' t' := h2
    unfold fconvOK fconv
    rw [if_neg h, if_neg h, if_neg h, if_neg h, h1, h2]
    exact ⟨rfl, rfl⟩

theorem up_aux (q kk : Nat) (h1 : q ≤ 1149) (h2 : kk < 9007199254740992) : min (q * 4503599627370496 + kk) 9218868437227405312 < 9218868437227405312 := by omega

/-- Narrow floats become wide ones without a draw of their value. -/
theorem fconv_up (x : Nat) : fconvOK .f32 .f64 x = true := by
  unfold fconvOK
  rw [if_neg (by decide)]
  split
  · rename_i sg m e hd
    have hd : Ieee.single.read x = .number sg m e := hd
    have hm : m < 16777216 ∧ -149 ≤ e ∧ e ≤ 104 := by
      have e1 : Ieee.single.signWeight = 2147483648 := by decide
      have e2 : Ieee.single.binade = 8388608 := by decide
      have e3 : Ieee.single.infRung = 2139095040 := by decide
      have e4 : Ieee.single.leastPlace = -149 := by decide
      unfold Ieee.Format.read at hd
      simp only [e1, e2, e3, e4] at hd
      split at hd
      · injection hd with _ h2 h3; omega
      · split at hd
        · injection hd with _ h2 h3
          have := Nat.mod_lt (x % 2147483648) (show 0 < 8388608 by decide)
          have h4 : x % 2147483648 / 8388608 < 255 := by omega
          omega
        · split at hd <;> cases hd
    have hlast : (FloatKind.f64.decode (FloatKind.f64.encode (.number sg m e))).isInfinity = false := by
      have e1 : Ieee.double.signWeight = 9223372036854775808 := by decide
      have e2 : Ieee.double.binade = 4503599627370496 := by decide
      have e3 : Ieee.double.infRung = 9218868437227405312 := by decide
      have e4 : Ieee.double.leastPlace = -1074 := by decide
      have hw : ∃ r, r < 9218868437227405312 ∧ FloatKind.f64.encode (.number sg m e) = Ieee.double.word sg r := by
        show ∃ r, _ ∧ Ieee.double.nearest sg m e = _
        unfold Ieee.Format.nearest
        by_cases h0 : m = 0
        · rw [if_pos h0]; exact ⟨0, by decide, rfl⟩
        · rw [if_neg h0]
          refine ⟨_, ?_, rfl⟩
          have hl : m.log2 ≤ 23 := by
            have : m.log2 < 24 := (Nat.log2_lt h0).2 (by omega)
            omega
          have hfb : Ieee.double.fractionBits = 52 := rfl
          have hpl : max (e + (m.log2 : Int) - ((Ieee.double.fractionBits : Nat) : Int)) Ieee.double.leastPlace = e + (m.log2 : Int) - 52 := by
            rw [e4, hfb]; omega
          rw [hpl, e2, e3, e4]
          have hdrop : (e + (m.log2 : Int) - 52 - e).toNat = 0 := by omega
          have hup : (e - (e + (m.log2 : Int) - 52)).toNat = 52 - m.log2 := by omega
          rw [hdrop, hup]
          have hcut : Ieee.Toward.even.cut sg (m <<< (52 - m.log2)) 0 = m <<< (52 - m.log2) := by
            unfold Ieee.Toward.cut
            simp [Nat.mod_one]
          rw [hcut]
          have hk : m <<< (52 - m.log2) < 9007199254740992 := by
            rw [Nat.shiftLeft_eq]
            have h2 : m < 2 ^ (m.log2 + 1) := Nat.lt_log2_self
            have h3 : m * 2 ^ (52 - m.log2) < 2 ^ (m.log2 + 1) * 2 ^ (52 - m.log2) := (Nat.mul_lt_mul_right (Nat.two_pow_pos _)).2 h2
            rw [← Nat.pow_add, show m.log2 + 1 + (52 - m.log2) = 53 from by omega] at h3
            exact h3
          exact up_aux _ _ (by omega) hk
      obtain ⟨r, hr, hw⟩ := hw
      rw [hw]
      show (Ieee.double.read (Ieee.double.word sg r)).isInfinity = false
      have hmod : Ieee.double.word sg r % 9223372036854775808 = r := by
        unfold Ieee.Format.word
        cases sg with
        | true => simp only [if_true, e1]; omega
        | false => simp only [Bool.false_eq_true, if_false]; omega
      unfold Ieee.Format.read
      simp only [e1, e2, e3, hmod]
      split
      · rfl
      · first | rfl | (rw [if_pos hr]; rfl)
    rw [hlast]; rfl
  · rfl

-- ---------------------------------------------------------------- the operations

def isArith : BinOp → Bool
  | .add => true
  | .sub => true
  | .mul => true
  | .quo => true
  | _ => false

def iFCmp (op : BinOp) (k : FloatKind) (x y : Nat) : Option Eff :=
  match op with
  | .eql => pureE (.one (.dat .bool (feq k x y)))
  | .neq => pureE (.one (.dat .bool (!feq k x y)))
  | .lss => pureE (.one (.dat .bool (flt k x y)))
  | .leq => pureE (.one (.dat .bool (fle k x y)))
  | .gtr => pureE (.one (.dat .bool (fgt k x y)))
  | .geq => pureE (.one (.dat .bool (fge k x y)))
  | _ => none

/-- Structs of integers that are the same. -/
def eqFs (P : Program) (cs ds : List ICell) : List Field → Option Bool
  | [] => some true
  | f :: r => match P.underlying f.type, cs[f.offset]?, ds[f.offset]?, eqFs P cs ds r with
    | some (.int _), some (.dat (.int k) a), some (.dat (.int k') b), some e => bif f.name == "_" then none else if k = k' then some ((a == b) && e) else none
    | _, _, _, _ => none

def iStructEq (P : Program) (T : TypeId) (op : BinOp) (cs ds : List ICell) : Option Eff :=
  match P.underlying T with
  | some (.struct fs) => bif P.stoodInHeld T || P.eqGuardType P.depth T then none else
    (match op, eqFs P cs ds fs.toList with
    | .eql, some b => pureE (.one (.dat .bool b))
    | .neq, some b => pureE (.one (.dat .bool (!b)))
    | _, _ => none)
  | _ => none

/-- Two operands; floats among them, and structs. -/
def iBinF (P : Program) (T : TypeId) (op : BinOp) (x y : IVal) : Option Eff :=
  match x, y with
  | .one (.dat (.flt k) a), .one (.dat (.flt k') b) => if k = k' then (if isArith op then pureE (.one (.dat (.flt k) (fop op k a b))) else iFCmp op k a b) else none
  | .agg cs, .agg ds => iStructEq P T op cs ds
  | x, y => iBin P T op x y

def iUnF (op : UnOp) (x : IVal) : Option Eff :=
  match op, x with
  | .neg, .one (.dat (.flt k) b) => pureE (.one (.dat (.flt k) (fneg k b)))
  | op, x => iUn op x

def isByteSlice (P : Program) (T : TypeId) : Bool :=
  match P.underlying T with
  | some (.slice e) => (match P.underlying e with
    | some (.int .u8) => true
    | _ => false)
  | _ => false

def bytesI (s : List UInt8) : List Int := s.map fun b => ((b.toNat : Nat) : Int)
def bytesO (l : List Int) : List UInt8 := l.map fun n => UInt8.ofNat n.toNat

/-- Conversions; floats, bytes and strings among them. -/
def iConvertM (P : Program) (m : Mem) (nx : Nat) (T U : TypeId) (x : IVal) : Option Eff :=
  match P.underlying T, P.underlying U, x with
  | some _, some (.float k), .one (.dat (.flt s) b) => pureC (.one (.dat (.flt k) (fconv s k b))) [fconvOK s k b = true]
  | some _, some (.float k), .one (.dat (.int _) n) => pureE (.one (.dat (.flt k) (fofint k n)))
  | some .string, some (.slice _), .one (.dat .str s) => bif isByteSlice P U then some ⟨.one (.all nx), [(nx, .seq (.int .u8) (bytesI s))], [], [List.length s ≤ appMax]⟩ else none
  | some (.slice _), some (.slice _), .one (.all c) => bif Nat.beq T U && isByteSlice P T then (match lk c m with
      | some (.seq t xs) => if t = .int .u8 then some ⟨.one (.all c), [], [(c, .seq t xs)], [0 < List.length xs]⟩ else none
      | _ => none) else none
  | some (.slice _), some .string, x => bif isByteSlice P T then (match vdat m (.sl (.int .u8)) x with
      | some l => pureE (.one (.dat .str (bytesO l)))
      | none => none) else none
  | _, _, x => iConvert P T U x

/-- What is appended out of a string. -/
def iAppendS (P : Program) (m : Mem) (nx : Nat) (T T' : TypeId) (s x : IVal) : Option Eff :=
  match P.underlying T, P.underlying T', x with
  | some (.slice e), some .string, .one (.dat .str y) => (match P.info? e with
    | some i => bif (isByteSlice P T && Nat.beq i.size 1) && (Nat.ble i.bytes 32768 && i.zero.isSome) && (i.zero.map fun z => Nat.beq z.cells.size 1).getD false then
        (match appBase m (.int .u8) s with
        | some (xs, up) => some ⟨.one (.all nx), [(nx, .seq (.int .u8) (xs ++ bytesI y))], up, [List.length xs + List.length y ≤ appMax]⟩
        | none => none) else none
    | none => none)
  | _, _, _ => none

/-- A slice of data, with a third bound. -/
def iSliceM (P : Program) (T : TypeId) (x : IVal) (lo hi mx : Option IVal) : Option Eff :=
  match P.underlying T, x with
  | some (.slice e), .one (.dat (.sl t) xs) => (match loI lo, hi, mx with
    | some l, some (.one (.dat (.int _) h)), some (.one (.dat (.int _) q)) => bif sizeT P e == some t.size then pureC (.one (.dat (.sl t) (cut xs l h))) [(0 : Int) ≤ l ∧ l ≤ h ∧ h ≤ q ∧ q ≤ ((List.length xs : Nat) : Int)] else none
    | _, _, _ => none)
  | _, _ => none

section
variable {P : Program} {g : GM} {m : Mem} {S : Nat → Prop} {cx : Cx} {st : St} {a : Act} {w : World}

theorem dat_flt {k : FloatKind} {n : Nat} {v : Value} (h : CR g m S w (.dat (.flt k) n) v) : ∃ b, v = .float k b ∧ fcanon k b = n := by
  obtain ⟨b, e, hb⟩ := (h : ∃ b, [v] = [Value.float k b] ∧ fcanon k b = n)
  exact ⟨b, by simpa using e, hb⟩

theorem flt_dat {k : FloatKind} {b n : Nat} (h : fcanon k b = n) : VR g m S w (.one (.dat (.flt k) n)) (.float k b) := ⟨b, rfl, h⟩

theorem Runs.drew {s : Sem Value} {e : Eff} {v : IVal} {r : Value} (h : Sim cx g st a w) (he : e.new = [] ∧ e.upd = [] ∧ e.val = v) (hr : s.run cx.P w = .ok r w.drew) (hv : ∀ g m S w, VR g m S w v r) : Runs cx st a w s e := by
  refine ⟨r, w.drew, hr, g, ?_, ?_⟩
  · rw [he.1, he.2.1]
    exact h.turn (G := []) ⟨KeepF.drew _ _, fun b hb => (by simp at hb), fun _ _ => rfl, fun k ch hk => .inl ⟨hk, fun _ b _ hb => by simp at hb⟩, fun k ch hk hk' => by
      change lk k st.mem = some ch at hk'
      rw [hk] at hk'; cases hk'⟩
  · rw [he.2.2]; exact hv _ _ _ _

theorem eqFs_sound {P : Program} {g : GM} {m : Mem} {S : Nat → Prop} {w w' : World} {d : Nat} {cs ds : List ICell} {us vs : List Value} (hu : All2 (CR g m S w) cs us) (hv : All2 (CR g m S w) ds vs) :
    ∀ (fs : List Field) (b : Bool), eqFs P cs ds fs = some b → (Op.eqFields (d + 1) us.toArray vs.toArray fs).run P w' = .ok b w'
  | [], b, h => by
    unfold eqFs at h
    injection h with h
    subst h
    rfl
  | f :: r, b, h => by
    unfold eqFs at h
    split at h
    · rename_i k k1 x k2 y e hT hc hd he
      cases hn : f.name == "_" with
      | true => rw [hn] at h; cases h
      | false =>
        rw [hn] at h
        simp only [cond_false] at h
        split at h
        case isFalse => cases h
        rename_i hk
        subst hk
        injection h with h
        subst h
        have hn' : f.name ≠ "_" := by
          intro hh; rw [hh] at hn; simp at hn
        obtain ⟨u, hu1, hu2⟩ := hu.get _ _ hc
        obtain ⟨v, hv1, hv2⟩ := hv.get _ _ hd
        have e1 : u = .int k1 x := dat_int (g := g) (m := m) (S := S) (w := w) hu2
        have e2 : v = .int k1 y := dat_int (g := g) (m := m) (S := S) (w := w) hv2
        subst e1
        subst e2
        have p1 : (part f.type us.toArray f.offset).run P w' = .ok (.int k1 x) w' := by simp [part, isAgg, run_underlying hT, hu1]
        have p2 : (part f.type vs.toArray f.offset).run P w' = .ok (.int k1 y) w' := by simp [part, isAgg, run_underlying hT, hv1]
        have p3 := run_equalIn_int w' d f.type k1 k x y hT
        unfold Op.eqFields
        rw [if_pos hn']
        simp only [Sem.run_bind, p1, p2, p3, Result.andThen_ok]
        cases hxy : (x == y) with
        | true => simpa using eqFs_sound hu hv r e he
        | false => simp
    · cases h

theorem iStructEq_sound {P : Program} {g : GM} {m : Mem} {S : Nat → Prop} {w : World} {op : BinOp} {T : TypeId} {cs ds : List ICell} {e : Eff} {xa ya : Value} (h : iStructEq P T op cs ds = some e) (hx : VR g m S w (.agg cs) xa) (hy : VR g m S w (.agg ds) ya) :
    Gives P g m S w (binOp op T xa ya) e := by
  obtain ⟨us, rfl, hu⟩ := hx
  obtain ⟨vs, rfl, hv⟩ := hy
  unfold iStructEq at h
  split at h
  · rename_i fs hT
    cases hg : P.stoodInHeld T with
    | true => rw [hg] at h; cases h
    | false =>
      cases hq : P.eqGuardType P.depth T with
      | true => rw [hg, hq] at h; cases h
      | false =>
        rw [hg, hq] at h
        simp only [Bool.or_self, cond_false] at h
        have hf : Program.fieldsOf P T = fs := by unfold Program.fieldsOf; rw [hT]
        split at h
        · rename_i b hb
          have := eqFs_sound (w' := w) (d := 9998) hu hv _ _ hb
          refine Gives.mk (pureE_eq h) (r := .bool b) ?_ rfl
          rw [run_eql_struct, show (10000 : Nat) = 9999 + 1 from rfl, run_equalIn_agg w 9999 T _ _ (by rw [hf]; exact hT) hg, hf, this]
          rfl
        · rename_i b hb
          have := eqFs_sound (w' := w) (d := 9998) hu hv _ _ hb
          refine Gives.mk (pureE_eq h) (r := .bool (!b)) ?_ rfl
          rw [run_neq_struct, show (10000 : Nat) = 9999 + 1 from rfl, run_equalIn_agg w 9999 T _ _ (by rw [hf]; exact hT) hg, hf, this]
          rfl
        · cases h
  · cases h

theorem iStructEq_guard {P : Program} {w : World} {op : BinOp} {T : TypeId} {cs ds : List ICell} {e : Eff} {x y : Operand} {us vs : Array Value} (h : iStructEq P T op cs ds = some e) : (eqGuard op T x y (.agg us) (.agg vs)).run P w = .ok () w := by
  unfold iStructEq at h
  split at h
  · cases hq : P.eqGuardType P.depth T with
    | true => rw [hq] at h; simp only [Bool.or_true, cond_true] at h; cases h
    | false => exact run_eqGuard_agg w op T x y us vs hq
  · cases h

theorem iBinF_sound {op : BinOp} {x y : IVal} {e : Eff} {T : TypeId} {xa ya : Value} (hs : Sim cx g st a w) (h : iBinF cx.P T op x y = some e) (hc : AllP e.cond) (hx : VR g st.mem (cx.safe g st.mem w) w x xa) (hy : VR g st.mem (cx.safe g st.mem w) w y ya) :
    Runs cx st a w (binOp op T xa ya) e := by
  unfold iBinF at h
  split at h
  · rename_i k n k' n'
    obtain ⟨b, rfl, hb⟩ := dat_flt (g := g) (m := st.mem) (S := cx.safe g st.mem w) (w := w) hx
    obtain ⟨b', rfl, hb'⟩ := dat_flt (g := g) (m := st.mem) (S := cx.safe g st.mem w) (w := w) hy
    split at h
    · rename_i hk
      subst hk
      split at h
      · rename_i ha
        have hf : floatBits op k n n' = floatBits op k b b' := by rw [← hb, ← hb']; exact floatBits_canon op k b b'
        have he := pureE_eq h
        unfold fop at he
        rw [hf] at he
        cases hr : floatBits op k b b' with
        | some r =>
          rw [hr] at he
          exact Gives.runs hs (Gives.mk he (run_float_arith w op T k b b' r hr) (flt_dat rfl))
        | none =>
          rw [hr] at he
          have hn : (binOp op T (.float k b) (.float k b')).run cx.P w = .ok (.float k (Question.cut (.nanBits k b b') (w.tape w.drawn (.nanBits k b b')))) w.drew := by
            unfold floatBits at hr
            cases op <;> simp only [isArith, Bool.false_eq_true] at ha <;> simp only at hr <;> simp [binOp, Op.floatArith, hr, Question.forced]
          exact Runs.drew hs he hn fun g m S w => flt_dat (cut_nan k b b' _)
      · have ho : k.format.order n n' = k.format.order b b' := by rw [← hb, ← hb']; exact order_canon k b b'
        have hg : Gives cx.P g st.mem (cx.safe g st.mem w) w (binOp op T (.float k b) (.float k b')) e := by
          unfold iFCmp at h
          split at h
          · exact Gives.mk (pureE_eq h) (r := .bool (feq k n n')) (by simp [binOp, Op.floatCmp, feq, ho]) rfl
          · exact Gives.mk (pureE_eq h) (r := .bool (!feq k n n')) (by simp [binOp, Op.floatCmp, feq, ho, bne]) rfl
          · exact Gives.mk (pureE_eq h) (r := .bool (flt k n n')) (by simp [binOp, Op.floatCmp, flt, ho]) rfl
          · exact Gives.mk (pureE_eq h) (r := .bool (fle k n n')) (by simp [binOp, Op.floatCmp, fle, ho]) rfl
          · exact Gives.mk (pureE_eq h) (r := .bool (fgt k n n')) (by simp [binOp, Op.floatCmp, fgt, ho]) rfl
          · exact Gives.mk (pureE_eq h) (r := .bool (fge k n n')) (by simp [binOp, Op.floatCmp, fge, ho]) rfl
          · cases h
        exact Gives.runs hs hg
    · cases h
  · exact Gives.runs hs (iStructEq_sound h hx hy)
  · exact Gives.runs hs (iBin_sound h hc hx hy)

theorem iUnF_sound {op : UnOp} {x : IVal} {e : Eff} {xa : Value} (h : iUnF op x = some e) (hx : VR g m S w x xa) : Gives P g m S w (Op.unary op xa) e := by
  unfold iUnF at h
  split at h
  · rename_i k n
    obtain ⟨b, rfl, hb⟩ := dat_flt (g := g) (m := m) (S := S) (w := w) hx
    refine Gives.mk (pureE_eq h) (r := .float k (Op.negFloat k b)) (by simp [Op.unary]) (flt_dat ?_)
    unfold fneg
    rw [← hb, neg_canon]
  · exact iUn_sound h hx

theorem isByte_spec {T : TypeId} (h : isByteSlice P T = true) : ∃ e, P.underlying T = some (.slice e) ∧ P.underlying e = some (.int .u8) := by
  unfold isByteSlice at h
  split at h
  · rename_i e h1
    split at h
    · rename_i h2; exact ⟨e, h1, h2⟩
    · cases h
  · cases h

theorem bytes_els {S' : Nat → Prop} {w' : World} {s : List UInt8} {arr : Array Value} (h : ∀ j (hj : j < s.length), arr[j]? = some (.int .u8 ((s[j].toNat : Nat) : Int))) : ElsR S' w' (.int .u8) (bytesI s) arr := by
  intro i hi
  have hi' : i < s.length := by simpa [bytesI] using hi
  refine ⟨[.int .u8 ((s[i].toNat : Nat) : Int)], fun j u hj => ?_, ?_⟩
  · cases j with
    | zero =>
      simp only [List.getElem?_cons_zero, Option.some.injEq] at hj
      subst hj
      simp only [Ty.size, Nat.mul_one, Nat.add_zero]
      exact h i hi'
    | succ j => simp at hj
  · show [Value.int .u8 ((s[i].toNat : Nat) : Int)] = [Value.int .u8 ((bytesI s)[i])]
    simp [bytesI]

theorem freeze_heap (w : World) (b n : Nat) {arr : Array Value} {T : TypeId} {lo hi : Nat} (h : w.heap[b]? = some (.cells arr T (lo, hi))) :
    (w.freeze ⟨b, n, none⟩ 1).heap[b]? = some (.cells arr T (if lo == hi then (n, n + 1) else (min lo n, max hi (n + 1)))) := by
  simp [World.freeze, Array.getElem?_modify, h]

theorem freeze_other (w : World) (b n q : Nat) (hq : q ≠ b) : (w.freeze ⟨b, n, none⟩ 1).heap[q]? = w.heap[q]? := by
  simp [World.freeze, Array.getElem?_modify, Ne.symm hq]

theorem freeze_blk {w : World} {b : Nat} {arr : Array Value} (h : blk w b arr) : blk (w.freeze ⟨b, arr.size, none⟩ 1) b arr := by
  obtain ⟨T, lo, hi, h, hf⟩ := h
  by_cases e : lo = hi
  · subst e
    exact ⟨T, arr.size, arr.size + 1, by rw [freeze_heap w b arr.size h]; simp, .inr (Nat.le_refl _)⟩
  · exact ⟨T, min lo arr.size, max hi (arr.size + 1), by rw [freeze_heap w b arr.size h, if_neg (by simpa using e)], .inr (by omega)⟩

theorem freeze_keep {w : World} {b : Nat} {arr : Array Value} (h : blk w b arr) : KeepF [b] w (w.freeze ⟨b, arr.size, none⟩ 1) := by
  have hfr : (w.freeze ⟨b, arr.size, none⟩ 1).os = w.os ∧ (w.freeze ⟨b, arr.size, none⟩ 1).tape = w.tape ∧ (w.freeze ⟨b, arr.size, none⟩ 1).output = w.output ∧ (w.freeze ⟨b, arr.size, none⟩ 1).heap.size = w.heap.size := by
    unfold World.freeze; split <;> simp
  refine ⟨hfr.1, hfr.2.1, hfr.2.2.1, by rw [hfr.2.2.2]; exact Nat.le_refl _, fun q _ hq => freeze_other w b arr.size q (by simpa using hq), fun q arr' hb => ?_⟩
  by_cases e : q = b
  · subst e
    have := hb.eq h
    subst this
    exact ⟨arr', freeze_blk h, rfl⟩
  · exact ⟨arr', hb.keep (freeze_other w b arr.size q e), rfl⟩

theorem iConvertM_sound {T U : TypeId} {x : IVal} {e : Eff} {xa : Value} (hs : Sim cx g st a w) (hw : Fresh st.mem e.new) (h : iConvertM cx.P st.mem st.nx T U x = some e) (hc : AllP e.cond) (hx : VR g st.mem (cx.safe g st.mem w) w x xa) : Runs cx st a w (convert T U xa) e := by
  unfold iConvertM at h
  split at h
  · rename_i u k s n h1 h2
    obtain ⟨b, rfl, hb⟩ := dat_flt (g := g) (m := st.mem) (S := cx.safe g st.mem w) (w := w) hx
    obtain ⟨he, hco⟩ := pureC_eq h
    rw [hco] at hc
    have hok : fconvOK s k n = true := hc.1
    by_cases hsk : s = k
    · subst hsk
      have e1 : fconv s s n = n := by unfold fconv; rw [if_pos rfl]
      rw [e1] at he
      refine Gives.runs hs (Gives.mk he (r := .float s b) (run_convert_float_float w T U s s b b (by rw [h1]; rfl) h2 (by simp [floatToFloatBits])) (flt_dat hb))
    · have hcn := fconv_canon s k b hsk
      rw [hb] at hcn
      rw [hcn.2] at he
      rw [hcn.1] at hok
      unfold fconvOK at hok
      unfold fconv at he
      rw [if_neg hsk] at hok he
      cases hd : s.decode b with
      | nan sg t =>
        rw [hd] at he
        have hn : (convert T U (.float s b)).run cx.P w = .ok (.float k (Question.cut (.nanConv k b) (w.tape w.drawn (.nanConv k b)))) w.drew := by
          cases u <;> simp [convert, run_underlying h1, run_underlying h2, Conv.floatToFloat, hsk, hd, Question.forced]
        exact Runs.drew hs he hn fun g m S w => flt_dat (cut_nanc k b _)
      | infinity sg =>
        rw [hd] at he
        exact Gives.runs hs (Gives.mk he (run_convert_float_float w T U s k b _ (by rw [h1]; rfl) h2 (by simp [floatToFloatBits, hsk, hd])) (flt_dat rfl))
      | number sg mm ee =>
        rw [hd] at he hok
        have hok : (k.decode (k.encode (.number sg mm ee))).isInfinity = false := by simpa using hok
        exact Gives.runs hs (Gives.mk he (run_convert_float_float w T U s k b _ (by rw [h1]; rfl) h2 (by simp [floatToFloatBits, hsk, hd, hok])) (flt_dat rfl))
  · rename_i u k kk n h1 h2
    have := dat_int (g := g) (m := st.mem) (S := cx.safe g st.mem w) (w := w) hx
    subst this
    exact Gives.runs hs (Gives.mk (pureE_eq h) (r := .float k (k.nearest n)) (by cases u <;> simp [convert, run_underlying h1, run_underlying h2, Conv.intToFloat]) (flt_dat rfl))
  · rename_i el s h1 h2
    cases hb : isByteSlice cx.P U with
    | false => simp [hb] at h
    | true =>
      rw [hb] at h
      simp only [cond_true] at h
      injection h with h
      subst h
      obtain ⟨e1, k1, k2⟩ := isByte_spec hb
      have hxa := dat_str (g := g) (m := st.mem) (S := cx.safe g st.mem w) (w := w) hx
      subst hxa
      have hlen : s.length ≤ appMax := hc.1
      unfold appMax at hlen
      have hrun := Lib.run_convert_string_bytes (P := cx.P) w T U e1 ⟨s.toArray⟩ h1 k1 k2
      have hsz : (⟨s.toArray⟩ : ByteArray).size = s.length := by simp [ByteArray.size]
      rw [hsz] at hrun
      have hge := grownCap_ge w s.length 0 e1
      have hmx := grownCap_le_maxLen w s.length 0 e1 (by unfold maxLen; omega)
      refine ⟨_, _, hrun, ?_⟩
      have hnew := Lib.bytesWorld_at_new w e1 ⟨s.toArray⟩
      have hcs : (Lib.bytesCells w e1 ⟨s.toArray⟩).size = grownCap w s.length 0 e1 := by
        simp [Lib.bytesCells, hsz]; omega
      have hblk : blk (Lib.bytesWorld w e1 ⟨s.toArray⟩) w.heap.size (Lib.bytesCells w e1 ⟨s.toArray⟩) :=
        ⟨_, _, _, hnew, .inr (Nat.le_refl _)⟩
      have hold : ∀ j, j < w.heap.size → (Lib.bytesWorld w e1 ⟨s.toArray⟩).heap[j]? = w.heap[j]? := fun j hj => Lib.bytesWorld_at_old w e1 ⟨s.toArray⟩ j hj
      have hkeep : KeepF [] w (Lib.bytesWorld w e1 ⟨s.toArray⟩) := by
        have hfr : ∀ (w : World) (a : Addr) (n : Nat), (w.freeze a n).os = w.os ∧ (w.freeze a n).tape = w.tape ∧ (w.freeze a n).output = w.output := by
          intro w a n; unfold World.freeze; split <;> exact ⟨rfl, rfl, rfl⟩
        have hf := hfr (w.drew.alloc (.cells (Lib.bytesCells w e1 ⟨s.toArray⟩) e1)) ⟨w.heap.size, (Lib.bytesCells w e1 ⟨s.toArray⟩).size, none⟩ 1
        exact ⟨hf.1, hf.2.1, hf.2.2, by rw [Lib.bytesWorld_size]; omega, fun b hb _ => hold b hb, fun b arr hb => ⟨arr, hb.keep (hold b hb.lt), rfl⟩⟩
      refine Did.newAt (G := []) (up := []) (gk := some w.heap.size) hs hw ⟨rfl, rfl, rfl⟩ (.inl rfl) hkeep (.inl rfl) (fun b hb => by injection hb with hb; left; omega) (fun S' hS => ⟨_, hblk, ?_⟩) ?_
      · refine bytes_els fun j hj => ?_
        simp [Lib.bytesCells, hj, Array.getElem?_append]
      · exact ⟨_, _, by simp [bytesI], by simp [bytesI]; exact hge, hblk, by rw [hcs]; simp [Ty.size], hmx⟩
  · rename_i el1 el2 c h1 h2
    cases hb : (Nat.beq T U && isByteSlice cx.P T) with
    | false => rw [hb] at h; cases h
    | true =>
      rw [hb] at h
      simp only [cond_true] at h
      simp only [Bool.and_eq_true] at hb
      have hTU := beq_of hb.1
      subst hTU
      obtain ⟨e1, k1, k2⟩ := isByte_spec hb.2
      split at h
      · rename_i t xs hl
        split at h
        · rename_i ht
          injection h with h
          subst h
          have hpos : 0 < List.length xs := hc.1
          have hch := hs.mem c _ hl
          have hall := hx.2.2 t xs hl
          unfold AllR at hall
          cases hg : g c with
          | none =>
            rw [hg] at hch
            have : xs = [] := hch
            subst this
            simp at hpos
          | some b =>
            rw [hg] at hch hall
            obtain ⟨arr, hbl, hels⟩ := hch
            obtain ⟨cap, arr', e2, q1, q2, q3, q4⟩ := hall
            have := q2.eq hbl
            subst this
            subst e2
            have hbl2 := hbl
            obtain ⟨T0, lo, hi, hh, _⟩ := hbl2
            have hsh : w.shape? b = some (T0, arr'.size) := by
              simp [World.shape?, hh]
            clear hh
            have hrun : (convert T T (.slice (some ⟨b, 0, none⟩) (List.length xs) cap)).run cx.P w = .ok (.slice (some ⟨b, 0, none⟩) (List.length xs) cap) (w.freeze ⟨b, arr'.size, none⟩ 1) := by
              simp [convert, run_underlying k1, run_underlying k2, markStringish, hsh]
            refine ⟨_, _, hrun, g, ?_, ?_⟩
            · exact Sim.chg hs (c := c) (b := b) hl (by simp) hg (freeze_keep hbl) hbl (freeze_blk hbl) rfl (by simp) (fun t' xs' e => by injection e with e1 e2; subst e1; exact ⟨xs, rfl, by rw [eq_of_heq e2]⟩)
                ⟨arr', freeze_blk hbl, fun i hi => by
                  obtain ⟨es, r1, r2⟩ := hels i hi
                  refine ⟨es, r1, ?_⟩
                  subst ht
                  exact r2⟩
            · refine ⟨by simp [lk_cons], rfl, fun t' xs' hl' => ?_⟩
              have hl' : lk c ((c, Chunk.seq t xs) :: st.mem) = some (.seq t' xs') := hl'
              rw [lk_cons, if_pos rfl] at hl'
              injection hl' with hl'
              injection hl' with ht2 hxs2
              subst ht2
              have hxs2 := eq_of_heq hxs2
              subst hxs2
              unfold AllR
              rw [hg]
              exact ⟨cap, arr', rfl, q1, freeze_blk hbl, q3, q4⟩
        · cases h
      · cases h
  · rename_i _ _ x0 el h1 h2
    cases hb : isByteSlice cx.P T with
    | false => simp [hb] at h
    | true =>
      rw [hb] at h
      simp only [cond_true] at h
      split at h
      · rename_i l hl
        obtain ⟨e1, k1, k2⟩ := isByte_spec hb
        rw [k1] at h1
        injection h1 with h1
        injection h1 with h1
        subst h1
        obtain ⟨news, hsr⟩ := src_rel hs.mem hl hx
        obtain ⟨ax, capx, ex, hxc⟩ := hsr.val
        subst ex
        refine Gives.runs hs (Gives.mk (pureE_eq h) (r := .string ⟨(bytesO l).toArray⟩) ?_ rfl)
        have hnews : news = l.map (Value.int .u8) := by
          refine List.ext_getElem? fun j => ?_
          have hln : news.length = l.length := by have := hsr.len; simpa [Ty.size] using this
          rcases Nat.lt_or_ge j l.length with hj | hj
          · obtain ⟨es, q1, q2⟩ := hsr.els j hj
            have q2 : es = [Value.int .u8 l[j]] := q2
            have := q1 0 (by simp [Ty.size])
            simp only [Ty.size, Nat.mul_one, Nat.add_zero, q2, List.getElem?_cons_zero] at this
            have e3 : (List.map (Value.int .u8) l)[j]? = some (.int .u8 l[j]) := by
              rw [List.getElem?_map, List.getElem?_eq_getElem hj]; rfl
            rw [e3, this]
          · rw [List.getElem?_eq_none (by omega), List.getElem?_eq_none (by simp; omega)]
        rw [run_convert_bytes_string w T U e1 ax l.length capx k1 k2 h2]
        have hfold : ∀ (l : List Int) (r : ByteArray), l.foldl (fun r n => r.push (UInt8.ofNat n.toNat)) r = ⟨r.data ++ (bytesO l).toArray⟩ := by
          intro l
          induction l with
          | nil => intro r; simp [bytesO]
          | cons n l ih => intro r; rw [List.foldl_cons, ih]; simp [bytesO, ByteArray.push]
        rcases hxc with h0 | ⟨ad, rfl, hcell⟩
        · have : l = [] := List.eq_nil_of_length_eq_zero h0
          subst this
          cases ax with
          | none => simp [Conv.bytesToString, bytesO]; rfl
          | some ad => simp [Conv.bytesToString, bytesO, loadCells, loadCellsFrom]; rfl
        · have hl := run_loadCells_list (P := cx.P) w ad (l.map (Value.int .u8)) (fun j v hj => hcell j v (by rw [hnews]; exact hj))
          simp only [List.length_map] at hl
          rw [run_bytesToString w ad l.length capx _ hl, hfold]
          simp
      · cases h
  · exact Gives.runs hs (iConvert_sound h hx)

theorem string_cells {w : World} {y : List UInt8} {n : Nat} (hn : n = y.length) (size : Nat) : (Builtin.firstCells size n (.string ⟨y.toArray⟩)).run P w = .ok ((bytesI y).map (Value.int .u8)).toArray w := by
  subst hn
  have e : (⟨y.toArray⟩ : ByteArray).extract 0 y.length = ⟨y.toArray⟩ := by
    apply ByteArray.ext
    simp
  simp only [Builtin.firstCells, e, Sem.run_pure]
  simp [bytesI]

theorem run_apps_grow {t u ty e : TypeId} {i : TypeInfo} {z : Value} (ht : P.underlying t = some (.slice e)) (hu : P.underlying u = some .string) (hi : P.info? e = some i) (hz : i.zero = some z)
    {base : Option Addr} {n cap : Nat} {olds : List Value} (hlo : olds.length = n * i.size) (ho : n = 0 ∨ ∃ ad, base = some ad ∧ ∀ j v, olds[j]? = some v → w.cell? (ad.add j) = some v)
    {y : List UInt8} (hg : cap < n + y.length) (hb : (n + y.length) * i.bytes ≤ 140737488355328) (h63 : n + y.length ≤ 9223372036854775807) :
    (Builtin.append_ #[t, u] ty #[.slice base n cap, .string ⟨y.toArray⟩]).run P w =
      .ok (.slice (some ⟨w.heap.size, 0, none⟩) (n + y.length) (grownCap w (n + y.length) cap e))
        (w.drew.alloc (.cells (olds.toArray ++ ((bytesI y).map (Value.int .u8)).toArray ++ Builtin.zeroCells z.cells (grownCap w (n + y.length) cap e - (n + y.length))) e)) := by
  have hroom : ¬ (n + y.length ≤ cap) := by omega
  have h63' : ¬ (9223372036854775807 < ((n : Int) + (y.length : Int))) := by omega
  have h48 := growslice_fits (old := cap) hg hb
  have h48' : ¬ (281474976710656 < Builtin.nextslicecap (n + y.length) cap * i.bytes) := by omega
  have hf := string_cells (P := P) (w := w.drew) (y := y) (n := y.length) rfl i.size
  have hfo := run_firstCells_of (P := P) (w := w.drew) (len := n) (cap := cap) hlo ho
  have hsz : (⟨y.toArray⟩ : ByteArray).size = y.length := by simp [ByteArray.size]
  simp [Builtin.append_, run_underlying ht, run_underlying hu, sizeOf, typeInfo, zeroValue, hi, hz, Builtin.lenOf, hsz, hroom, h63', h48', Question.forced, hf, hfo, newRow, grownCap]
  congr 2
  apply Array.ext'
  simp [List.append_assoc]

theorem run_apps_room {t u ty e : TypeId} {i : TypeInfo} (ht : P.underlying t = some (.slice e)) (hu : P.underlying u = some .string) (hi : P.info? e = some i) (hsz1 : i.size = 1) {b n cap : Nat} {arr : Array Value} (hb : blk w b arr)
    {y : List UInt8} (hroom : n + y.length ≤ cap) (hfit : (n + y.length) * i.size ≤ arr.size) :
    ∃ w' arr', (Builtin.append_ #[t, u] ty #[.slice (some ⟨b, 0, none⟩) n cap, .string ⟨y.toArray⟩]).run P w = .ok (.slice (some ⟨b, 0, none⟩) (n + y.length) cap) w' ∧ blk w' b arr' ∧
      arr'.toList = arr.toList.take (n * i.size) ++ (bytesI y).map (Value.int .u8) ++ arr.toList.drop (n * i.size + y.length) ∧ KeepF [b] w w' ∧ w'.heap.size = w.heap.size := by
  have hf := string_cells (P := P) (w := w) (y := y) (n := y.length) rfl i.size
  have hsz : (⟨y.toArray⟩ : ByteArray).size = y.length := by simp [ByteArray.size]
  have hl : ((bytesI y).map (Value.int .u8)).length = y.length := by simp [bytesI]
  obtain ⟨w', arr', e, k1, k2, k3, k4⟩ := run_storeCells_blk (P := P) ((bytesI y).map (Value.int .u8)) (n * i.size) 0 w arr hb (by rw [hl, Nat.add_zero, hsz1]; rw [hsz1] at hfit; omega) (fun v hv => by
    obtain ⟨x, _, rfl⟩ := List.mem_map.1 hv
    rfl)
  rw [hl] at k2
  refine ⟨w', arr', ?_, k1, by simpa using k2, k3, k4⟩
  have ha : (⟨b, 0, none⟩ : Addr).add (n * i.size) = ⟨b, n * i.size, none⟩ := by rw [add_none]; simp
  simp [Builtin.append_, run_underlying ht, run_underlying hu, sizeOf, typeInfo, hi, Builtin.lenOf, hsz, hroom, hf, ha, e]

theorem run_apps_none {t u ty e : TypeId} {i : TypeInfo} (ht : P.underlying t = some (.slice e)) (hu : P.underlying u = some .string) (hi : P.info? e = some i) {base : Option Addr} :
    (Builtin.append_ #[t, u] ty #[.slice base 0 0, .string ⟨#[]⟩]).run P w = .ok (.slice base 0 0) w := by
  have hf := string_cells (P := P) (w := w) (y := []) (n := 0) rfl i.size
  have hsz : (⟨#[]⟩ : ByteArray).size = 0 := rfl
  have hf : (Builtin.firstCells i.size 0 (.string ⟨#[]⟩)).run P w = .ok #[] w := hf
  cases base <;> simp [Builtin.append_, run_underlying ht, run_underlying hu, sizeOf, typeInfo, hi, Builtin.lenOf, hsz, hf, storeCells]

theorem bytes_elsL {S' : Nat → Prop} {w' : World} {y : List UInt8} : ElsL S' w' (.int .u8) (bytesI y) ((bytesI y).map (Value.int .u8)) := fun i hi => by
  refine ⟨[.int .u8 (bytesI y)[i]], fun j hj => ?_, rfl⟩
  have : j = 0 := by simpa [Ty.size] using hj
  subst this
  simp [Ty.size, hi]

theorem iAppendS_sound {T T' : TypeId} {ty : TypeId} {s x : IVal} {e : Eff} {sv xv : Value} (h : Sim cx g st a w) (hw : Fresh st.mem e.new) (he : iAppendS cx.P st.mem st.nx T T' s x = some e) (hc : AllP e.cond)
    (hs : VR g st.mem (cx.safe g st.mem w) w s sv) (hx : VR g st.mem (cx.safe g st.mem w) w x xv) : Runs cx st a w (Builtin.append_ #[T, T'] ty #[sv, xv]) e := by
  unfold iAppendS at he
  split at he
  · rename_i el y hu hu'
    have hxv := dat_str (g := g) (m := st.mem) (S := cx.safe g st.mem w) (w := w) hx
    subst hxv
    split at he
    · rename_i i hi
      cases hb : ((isByteSlice cx.P T && Nat.beq i.size 1) && (Nat.ble i.bytes 32768 && i.zero.isSome) && (i.zero.map fun z => Nat.beq z.cells.size 1).getD false) with
      | false => simp [hb] at he
      | true =>
        rw [hb] at he
        simp only [cond_true] at he
        simp only [Bool.and_eq_true] at hb
        obtain ⟨⟨⟨hT, hsz⟩, hby, hzs⟩, hzc⟩ := hb
        have hsz := beq_of hsz
        have hby := ble_of hby
        obtain ⟨z, hz⟩ := Option.isSome_iff_exists.1 hzs
        rw [hz] at hzc
        have hzc : z.cells.size = 1 := beq_of (by simpa using hzc)
        split at he
        · rename_i xs up hbase
          injection he with he
          subst he
          have hlen : xs.length + y.length ≤ appMax := hc.1
          unfold appMax at hlen
          obtain ⟨hup, hbv⟩ := base_rel h.mem hbase hs
          have hbytes : (xs.length + y.length) * i.bytes ≤ 140737488355328 := by
            calc (xs.length + y.length) * i.bytes ≤ 4294967296 * 32768 := Nat.mul_le_mul hlen hby
              _ = 140737488355328 := by decide
          have hyl : (bytesI y).length = y.length := by simp [bytesI]
          have hnl : ((bytesI y).map (Value.int .u8)).length = y.length := by simp [bytesI]
          have grow : ∀ (base : Option Addr) (cap : Nat) (olds : List Value), olds.length = xs.length * i.size → (xs.length = 0 ∨ ∃ ad, base = some ad ∧ ∀ j v, olds[j]? = some v → w.cell? (ad.add j) = some v) →
              ElsL (cx.safe g st.mem w) w (.int .u8) xs olds → cap < xs.length + y.length → (up = [] ∨ ∃ c ch0, up = [(c, .gone)] ∧ lk c st.mem = some ch0 ∧ ch0 ≠ .gone) →
              Runs cx st a w (Builtin.append_ #[T, T'] ty #[.slice base xs.length cap, .string ⟨y.toArray⟩]) ⟨.one (.all st.nx), [(st.nx, .seq (.int .u8) (xs ++ bytesI y))], up, [List.length xs + List.length y ≤ appMax]⟩ := by
            intro base cap olds hol ho hels hlt hup
            have hge := grownCap_ge w (xs.length + y.length) cap el
            have hmx := grownCap_le_maxLen w (xs.length + y.length) cap el (by unfold maxLen; omega)
            have hr := run_apps_grow (P := cx.P) (ty := ty) hu hu' hi hz hol ho hlt hbytes (by omega)
            have hkeep : KeepF [] w (w.drew.alloc (.cells (olds.toArray ++ ((bytesI y).map (Value.int .u8)).toArray ++ Builtin.zeroCells z.cells (grownCap w (xs.length + y.length) cap el - (xs.length + y.length))) el)) :=
              (KeepF.drew [] w).trans (KeepF.alloc _ _ _)
            have hblk := blk.new w.drew (olds.toArray ++ ((bytesI y).map (Value.int .u8)).toArray ++ Builtin.zeroCells z.cells (grownCap w (xs.length + y.length) cap el - (xs.length + y.length))) el
            refine ⟨_, _, hr, ?_⟩
            refine Did.newAt (G := []) (gk := some w.heap.size) h hw ⟨rfl, rfl, rfl⟩ hup hkeep (.inl rfl) (fun b hb => by injection hb with hb; left; omega) (fun S' hS => ⟨_, hblk, ?_⟩) ?_
            · refine ElsL.toR ?_
              simp only [Array.toList_append]
              have h1 : ElsL S' (w.drew.alloc (.cells (olds.toArray ++ ((bytesI y).map (Value.int .u8)).toArray ++ Builtin.zeroCells z.cells (grownCap w (xs.length + y.length) cap el - (xs.length + y.length))) el)) (.int .u8) xs olds := fun i hi => by
                obtain ⟨es, k1, k2⟩ := hels i hi
                exact ⟨es, k1, Rep.keep hS _ es _ k2⟩
              exact ElsL.app h1 (by rw [hol, hsz]; rfl) bytes_elsL (by rw [hnl, hyl]; simp [Ty.size])
            · refine ⟨grownCap w (xs.length + y.length) cap el, _, ?_, by rw [List.length_append, hyl]; exact hge, hblk, ?_, hmx⟩
              · rw [List.length_append, hyl]
              · simp only [Array.size_append, List.size_toArray, size_zeroCells, hzc, hol, hnl, hsz, Ty.size]
                omega
          rcases hbv with ⟨hx0, ab, eb⟩ | ⟨c, ch, b, cap, arr, e1, e2, e3, e4, e5, hcap, hblk, hfit, hmax, hels⟩
          · subst eb
            subst hx0
            by_cases hy : y.length = 0
            · have hy' : y = [] := List.eq_nil_of_length_eq_zero hy
              subst hy'
              refine ⟨_, _, run_apps_none (P := cx.P) hu hu' hi, ?_⟩
              exact Did.newAt (G := []) (gk := none) h hw ⟨rfl, rfl, rfl⟩ hup (KeepF.refl _ _) (.inl rfl) (fun b hb => by cases hb) (fun S' hS => rfl) ⟨ab, rfl⟩
            · exact grow ab 0 [] (by simp) (.inl rfl) (fun i hi => by simp at hi) (by simp; omega) hup
          · subst e5
            by_cases hroom : xs.length + y.length ≤ cap
            · have hfit' : (xs.length + y.length) * i.size ≤ arr.size := by
                rw [hsz]
                have : cap * (Ty.int .u8).size ≤ arr.size := hfit
                simp only [Ty.size] at this
                omega
              obtain ⟨w', arr', hr, hb', hl', hk', hs'⟩ := run_apps_room (P := cx.P) (ty := ty) hu hu' hi hsz hblk hroom hfit'
              refine ⟨_, _, hr, ?_⟩
              refine Did.newAt (G := [b]) (gk := some b) h hw ⟨rfl, rfl, rfl⟩ hup hk' (.inr ⟨c, b, ch, e1, e2, e3, e4, rfl⟩) (fun b' hb2 => by injection hb2 with hb2; subst hb2; right; simp) (fun S' hS => ⟨arr', hb', ?_⟩) ?_
              · refine ElsL.toR ?_
                rw [hl', hsz]
                have h1 : ElsL S' w' (.int .u8) xs (arr.toList.take (xs.length * 1)) := fun i hi => by
                  obtain ⟨es, k1, k2⟩ := hels i hi
                  exact ⟨es, k1, Rep.keep hS _ es _ k2⟩
                refine ElsL.app h1 ?_ bytes_elsL (by rw [hnl, hyl]; simp [Ty.size])
                rw [hsz] at hfit'
                simp [Ty.size]; omega
              · refine ⟨cap, arr', by rw [List.length_append, hyl], by rw [List.length_append, hyl]; exact hroom, hb', ?_, hmax⟩
                have : arr'.size = arr.size := by
                  rw [← Array.length_toList, hl']
                  rw [hsz] at hfit' ⊢
                  simp only [List.length_append, List.length_take, List.length_drop, hnl, Array.length_toList]
                  omega
                rw [this]; exact hfit
            · have hle : xs.length * 1 ≤ arr.size := by
                have : cap * (Ty.int .u8).size ≤ arr.size := hfit
                simp only [Ty.size] at this
                omega
              exact grow _ cap (arr.toList.take (xs.length * 1)) (by rw [hsz]; simp; omega) (.inr ⟨_, rfl, fun j v hj => by
                rw [add_none, hblk.cell]
                rw [List.getElem?_take] at hj
                split at hj
                · simpa using hj
                · cases hj⟩) hels (by omega) hup
        · cases he
    · cases he
  · cases he

theorem run_bounds3 {lv : Option Value} {l h q : Int} {k1 k2 : IntKind} {len cap : Nat} (hl : (lv = none ∧ l = 0) ∨ ∃ k, lv = some (.int k l)) (h0 : 0 ≤ l) (h1 : l ≤ h) (h2 : h ≤ q) (h3 : q ≤ (cap : Int)) :
    (Instr.sliceBounds true len cap lv (some (.int k1 h)) (some (.int k2 q))).run P w = .ok (l.toNat, h.toNat, q.toNat) w := by
  have e1 : 0 ≤ q := by omega
  have e2 : 0 ≤ h := by omega
  have e3 : h ≤ ((q.toNat : Nat) : Int) := by omega
  have e4 : l ≤ ((h.toNat : Nat) : Int) := by omega
  have e5 : h ≤ max q 0 := by omega
  have e6 : l ≤ max h 0 := by omega
  rcases hl with ⟨rfl, rfl⟩ | ⟨k, rfl⟩
  · simp [Instr.sliceBounds, Instr.sliceBound, asIntOf, e1, e2, h3, e5]
  · simp [Instr.sliceBounds, Instr.sliceBound, asIntOf, h0, e1, e2, h3, e5, e6]

theorem iSliceM_sound {T : TypeId} {x : IVal} {lo hi mx : Option IVal} {e : Eff} {xa : Value} {lv hv qv : Option Value} (h : iSliceM P T x lo hi mx = some e) (hc : AllP e.cond)
    (hx : VR g m S w x xa) (hlo : OR g m S w lo lv) (hhi : OR g m S w hi hv) (hmx : OR g m S w mx qv) : Gives P g m S w (Instr.sliceAt T xa lv hv qv) e := by
  unfold iSliceM at h
  split at h
  · rename_i el t xs hu
    split at h
    · rename_i l k2 h' k q hl
      cases hb : (sizeT P el == some t.size) with
      | false => simp [hb] at h
      | true =>
        rw [hb] at h
        simp only [cond_true] at h
        have hs : sizeT P el = some t.size := by simpa using hb
        obtain ⟨he, hco⟩ := pureC_eq h
        rw [hco] at hc
        obtain ⟨⟨h0, h1, h2, h3⟩, _⟩ := hc
        have h0 : (0 : Int) ≤ (l : Int) := h0
        have h1 : @LE.le Int _ l h' := h1
        have h2 : @LE.le Int _ h' q := h2
        have h3 : @LE.le Int _ q ((List.length xs : Nat) : Int) := h3
        have hl' := loI_val hl hlo
        obtain ⟨a, cap, e1, hcap, hel⟩ := (hx : Rep S w (.sl t) [xa] xs)
        have hxa : xa = .slice a (List.length xs) cap := by simpa using e1
        subst hxa
        cases qv with
        | none => exact hmx.elim
        | some qv =>
          cases hv with
          | none => exact hhi.elim
          | some hv =>
            have hq := dat_int (g := g) (m := m) (S := S) (w := w) hmx
            subst hq
            have hh := dat_int (g := g) (m := m) (S := S) (w := w) hhi
            subst hh
            have hrun := run_bounds3 (P := P) (w := w) (k1 := k2) (k2 := k) (len := List.length xs) (cap := cap) hl' h0 h1 h2 (by omega)
            refine Gives.mk he (r := .slice (if q.toNat = l.toNat then a else a.map (·.add (l.toNat * t.size))) (h'.toNat - l.toNat) (q.toNat - l.toNat)) ?_ ?_
            · simp [Instr.sliceAt, Instr.slice, run_underlying hu, hrun, run_sizeT hs]
            · have hlen : List.length (cut xs l h') = h'.toNat - l.toNat := by unfold cut; simp; omega
              refine ⟨(if q.toNat = l.toNat then a else a.map (·.add (l.toNat * t.size))), q.toNat - l.toNat, by rw [hlen], by rw [hlen]; omega, fun j hj => ?_⟩
              rw [hlen] at hj
              obtain ⟨ad, es, ea, hS, hcell, hrep⟩ := hel (l.toNat + j) (by omega)
              subst ea
              rw [if_neg (by omega)]
              refine ⟨ad.add (l.toNat * t.size), es, rfl, by rw [add_block]; exact hS, fun k u hu => ?_, ?_⟩
              · rw [add_add, ← Nat.add_assoc, ← Nat.add_mul]; exact hcell k u hu
              · rw [cut_get (by omega) (by omega)]; exact hrep
    · cases h
  · cases h

end
end Go.Ide

/-
  New memory that nobody writes: literals of slices as data; results of calls as data.
-/
namespace Go.Ide

/-- A slice's literal, told as data. -/
def iBuildSliceD (P : Program) (nx : Nat) (T : TypeId) (t : Ty) (len : Nat) (parts : List (Nat × IVal)) : Option Eff :=
  match P.underlying T with
  | some (.slice e) => bif (sizeT P e == some t.size && (((P.info? e).bind (·.zero)).map fun z => Nat.beq z.cells.size t.size) == some true) && (Nat.beq parts.length len && Nat.ble (len * t.size) 65536) then
      (match partsD t 0 parts with
      | some xs => some ⟨.one (.dat (.sl t) xs), [], [], []⟩
      | none => none) else none
  | _ => none

section
variable {cx : Cx} {g : GM} {st : St} {a : Act} {w w' : World}

theorem Did.imm {t : Ty} {xs : List t.D} {arr : Array Value} {el : TypeId} {e : Eff} (h : Sim cx g st a w) (he : e.new = [] ∧ e.upd = [] ∧ e.val = .one (.dat (.sl t) xs)) (hels : ElsL (cx.safe g st.mem w) w t xs arr.toList) :
    Did cx st a e (.slice (some ⟨w.heap.size, 0, none⟩) xs.length xs.length) (w.alloc (.cells arr el)) := by
  refine ⟨g, ?_, ?_⟩
  · rw [he.1, he.2.1]; exact h.grow (KeepF.alloc _ _ _)
  · rw [he.1, he.2.1, he.2.2]
    have hsize : (w.alloc (.cells arr el)).heap.size = w.heap.size + 1 := by simp
    have hsafe : ∀ b, cx.safe g st.mem w b → cx.safe g st.mem (w.alloc (.cells arr el)) b := fun b ⟨h1, h2, h3⟩ => ⟨by rw [hsize]; omega, h2, h3⟩
    have hnew : cx.safe g st.mem (w.alloc (.cells arr el)) w.heap.size := by
      refine ⟨by rw [hsize]; omega, fun hb => ?_, ?_⟩
      · have := h.keep.size; omega
      · rintro ⟨k, ch, hk, hn, hg⟩
        have := h.live_lt hk hn hg
        omega
    refine ⟨some ⟨w.heap.size, 0, none⟩, xs.length, rfl, Nat.le_refl _, fun i hi => ?_⟩
    obtain ⟨es, k1, k2⟩ := hels.toR i hi
    refine ⟨⟨w.heap.size, 0, none⟩, es, rfl, hnew, fun j v hj => ?_, Rep.keep (fun b hb => ⟨hsafe b hb, RowKit.Below.heap_alloc w _ b hb.1⟩) t es _ k2⟩
    rw [add_none, (blk.new w arr el).cell]
    simpa using k1 j v hj

theorem iBuildSliceD_sound {T : TypeId} {t : Ty} {len : Nat} {parts : List (Nat × IVal)} {vparts : Array (Nat × Value)} {e : Eff} (h : Sim cx g st a w) (he : iBuildSliceD cx.P st.nx T t len parts = some e)
    (hp : All2 (fun (p : Nat × IVal) (q : Nat × Value) => p.1 = q.1 ∧ VR g st.mem (cx.safe g st.mem w) w p.2 q.2) parts vparts.toList) : Runs cx st a w (Instr.buildSlice T len vparts) e := by
  unfold iBuildSliceD at he
  split at he
  · rename_i el hu
    cases hb : ((sizeT cx.P el == some t.size && (((cx.P.info? el).bind (·.zero)).map fun z => Nat.beq z.cells.size t.size) == some true) && (Nat.beq parts.length len && Nat.ble (len * t.size) 65536)) with
    | false => rw [hb] at he; cases he
    | true =>
      rw [hb] at he
      simp only [cond_true] at he
      simp only [Bool.and_eq_true, beq_iff_eq] at hb
      obtain ⟨⟨hs, hz⟩, hn, h24⟩ := hb
      have hn := beq_of hn
      have h24 := ble_of h24
      subst hn
      split at he
      · rename_i xs hx
        injection he with he
        subst he
        cases hi : cx.P.info? el with
        | none => simp [sizeT, hi] at hs
        | some i =>
          rw [hi] at hz
          simp only [Option.bind_some] at hz
          cases hzz : i.zero with
          | none => simp [hzz] at hz
          | some z =>
            rw [hzz] at hz
            have hz : Nat.beq z.cells.size t.size = true := by simpa using hz
            have hz := beq_of hz
            let base : Array Value := (Array.range (parts.length * t.size)).map fun k => (if parts.length * t.size = 0 then #[] else z.cells)[k % (if parts.length * t.size = 0 then #[] else z.cells).size]!
            have hbs : base.size = parts.length * t.size := by simp [base]
            obtain ⟨arr', news, e1, e2, e3, e4, e5⟩ := fill_parts (g := g) (m := st.mem) (S := cx.safe g st.mem w) (w := w) (arr := base) hx hp (by rw [hbs, Nat.zero_add]; exact Nat.le_refl _)
            have hrun : (Instr.buildSlice T parts.length vparts).run cx.P w = .ok (.slice (some ⟨w.heap.size, 0, none⟩) parts.length parts.length) (w.alloc (.cells arr' el)) := by
              have h24' : ¬ (16777216 < parts.length * t.size) := by omega
              by_cases h0 : parts.length * t.size = 0
              · have e1' : Instr.fill (fun j => some (j * t.size, t.size)) ((Array.range (parts.length * t.size)).map fun k => (#[] : Array Value)[k % (#[] : Array Value).size]!) vparts.toList = some arr' := by
                  have := e1
                  simp only [base, h0, if_true] at this
                  rw [h0]; exact this
                simp only [Instr.buildSlice, Sem.run_bind, run_underlying hu, Result.andThen_ok, run_sizeT hs]
                simp [h0, h24'] at e1' ⊢
                simp [e1', newRow]
              · have e1' : Instr.fill (fun j => some (j * t.size, t.size)) ((Array.range (parts.length * t.size)).map fun k => z.cells[k % z.cells.size]!) vparts.toList = some arr' := by
                  have := e1
                  simp only [base, h0, if_false] at this
                  exact this
                simp only [Instr.buildSlice, Sem.run_bind, run_underlying hu, Result.andThen_ok, run_sizeT hs]
                simp [h0, h24', zeroValue, typeInfo, hi, hzz] at e1' ⊢
                simp [e1', newRow]
            refine ⟨_, _, hrun, ?_⟩
            have hlen : arr'.toList = news := by
              rw [e5, ← e4]
              simp only [Nat.zero_mul, Nat.zero_add, List.take_zero, List.nil_append]
              rw [List.drop_of_length_le (by rw [Array.length_toList, hbs]; exact Nat.le_refl _)]
              simp
            rw [e4]
            exact Did.imm h ⟨rfl, rfl, rfl⟩ (by rw [hlen]; exact e3)
      · cases he
  · cases he

end

/-- Results told as data. -/
def frzR : List Bool → List RV → List RV
  | true :: fs, r :: rs => ⟨false, r.t, r.x⟩ :: frzR fs rs
  | false :: fs, r :: rs => r :: frzR fs rs
  | [], rs => rs
  | _, [] => []

theorem OwnRep.rep {S S' : Nat → Prop} {w : World} (hS : ∀ b, S b → S' b) : ∀ (t : Ty) {cs : List Value} {x : t.D} {F : List Nat}, (∀ b, b ∈ F → S' b) → OwnRep S w t cs x F → Rep S' w t cs x
  | .int _, _, _, _, _, h => h.2
  | .flt _, _, _, _, _, h => h.2
  | .bool, _, _, _, _, h => h.2
  | .str, _, _, _, _, h => h.2
  | .pair a b, _, _, _, hF, ⟨c1, c2, F1, F2, e, eF, h1, h2⟩ => by
    subst e; subst eF
    exact ⟨c1, c2, rfl, OwnRep.rep hS a (fun b hb => hF b (List.mem_append.2 (.inl hb))) h1, OwnRep.rep hS b (fun b hb => hF b (List.mem_append.2 (.inr hb))) h2⟩
  | .st t, _, _, _, hF, h => OwnRep.rep hS t (cs := _) hF h
  | .sl t, _, _, _, hF, h => by
    rcases h with ⟨_, rfl, a, e⟩ | ⟨b, cap, arr, eF, e, h1, h2, h3, h4, h5, h6⟩
    · exact ⟨a, 0, e, Nat.le_refl _, fun i hi => by simp at hi⟩
    · subst eF
      refine ⟨some ⟨b, 0, none⟩, cap, e, h1, fun i hi => ?_⟩
      obtain ⟨es, k1, k2⟩ := h6 i hi
      refine ⟨⟨b, 0, none⟩, es, rfl, hF b (by simp), fun j v hj => ?_, Rep.keep (fun b hb => ⟨hS b hb, rfl⟩) t es _ k2⟩
      rw [add_none, h3.cell]
      simpa using k1 j v hj

theorem OwnRep.up {S S' : Nat → Prop} {w : World} (hS : ∀ b, S b → S' b) : ∀ (t : Ty) {cs : List Value} {x : t.D} {F : List Nat}, OwnRep S w t cs x F → OwnRep S' w t cs x F
  | .int _, _, _, _, h => h
  | .flt _, _, _, _, h => h
  | .bool, _, _, _, h => h
  | .str, _, _, _, h => h
  | .pair a b, _, _, _, ⟨c1, c2, F1, F2, e, eF, h1, h2⟩ => ⟨c1, c2, F1, F2, e, eF, OwnRep.up hS a h1, OwnRep.up hS b h2⟩
  | .st t, _, _, _, h => OwnRep.up hS t (cs := _) h
  | .sl t, _, _, _, h => by
    rcases h with h | ⟨b, cap, arr, eF, e, h1, h2, h3, h4, h5, h6⟩
    · exact .inl h
    · exact .inr ⟨b, cap, arr, eF, e, h1, h2, h3, h4, h5, fun i hi => let ⟨es, k1, k2⟩ := h6 i hi; ⟨es, k1, Rep.keep (fun b hb => ⟨hS b hb, rfl⟩) t es _ k2⟩⟩

theorem RVR.cases {S : Nat → Prop} {w : World} {r : RV} {v : Value} {F : List Nat} (h : RVR S w r v F) : (r.fresh = true ∧ ∃ cs, ValOf r.t cs v ∧ OwnRep S w r.t cs r.x F) ∨ (r.fresh = false ∧ F = [] ∧ ∃ cs, ValOf r.t cs v ∧ Rep S w r.t cs r.x) := by
  unfold RVR at h
  cases hf : r.fresh with
  | true => rw [hf] at h; exact .inl ⟨rfl, h⟩
  | false => rw [hf] at h; exact .inr ⟨rfl, h⟩

theorem RVR.fr {S : Nat → Prop} {w : World} {r : RV} {v : Value} {F : List Nat} (hf : r.fresh = true) (h : ∃ cs, ValOf r.t cs v ∧ OwnRep S w r.t cs r.x F) : RVR S w r v F := by
  unfold RVR; rw [hf]; exact h
theorem RVR.im {S : Nat → Prop} {w : World} {r : RV} {v : Value} (hf : r.fresh = false) (h : ∃ cs, ValOf r.t cs v ∧ Rep S w r.t cs r.x) : RVR S w r v [] := by
  unfold RVR; rw [hf]; exact ⟨rfl, h⟩

theorem RVR.up {S S' : Nat → Prop} {w : World} (hS : ∀ b, S b → S' b) {r : RV} {v : Value} {F : List Nat} (h : RVR S w r v F) : RVR S' w r v F := by
  rcases h.cases with ⟨hf, cs, h1, h2⟩ | ⟨hf, rfl, cs, h1, h2⟩
  · exact RVR.fr hf ⟨cs, h1, OwnRep.up hS _ h2⟩
  · exact RVR.im hf ⟨cs, h1, Rep.keep (fun b hb => ⟨hS b hb, rfl⟩) _ _ _ h2⟩

theorem RVsR.up {S S' : Nat → Prop} {w : World} (hS : ∀ b, S b → S' b) : ∀ {rs : List RV} {vs : List Value} {F : List Nat}, RVsR S w rs vs F → RVsR S' w rs vs F
  | [], [], _, h => h
  | _ :: _, _ :: _, _, ⟨F1, F2, e, h1, h2⟩ => ⟨F1, F2, e, h1.up hS, RVsR.up hS h2⟩
  | [], _ :: _, _, h => h.elim
  | _ :: _, [], _, h => h.elim

theorem RVsR.frz {w : World} : ∀ {fs : List Bool} {rs : List RV} {vs : List Value} {F : List Nat} {S : Nat → Prop}, RVsR S w rs vs F → F.Nodup → ∃ F', F'.Sublist F ∧ ∀ S' : Nat → Prop, (∀ b, S b → S' b) → (∀ b, b ∈ F → b ∉ F' → S' b) → RVsR S' w (frzR fs rs) vs F' := by
  intro fs
  induction fs with
  | nil =>
    intro rs vs F S h _
    exact ⟨F, List.Sublist.refl _, fun S' hS _ => by cases rs <;> exact RVsR.up hS h⟩
  | cons f fs ih =>
    intro rs vs F S h hnd
    cases rs with
    | nil => cases f <;> exact ⟨F, List.Sublist.refl _, fun S' hS _ => RVsR.up hS h⟩
    | cons r rs =>
      cases vs with
      | nil => exact h.elim
      | cons v vs =>
        obtain ⟨F1, F2, e, h1, h2⟩ := h
        subst e
        have hn2 := (List.nodup_append.1 hnd).2.1
        have hdis := (List.nodup_append.1 hnd).2.2
        obtain ⟨F', hs, hk⟩ := ih h2 hn2
        cases f with
        | true =>
          refine ⟨F', hs.trans (List.sublist_append_right _ _), fun S' hS hF => ⟨[], F', rfl, ?_, hk S' hS fun b hb hn => hF b (List.mem_append.2 (.inr hb)) hn⟩⟩
          rcases h1.cases with ⟨_, cs, q1, q2⟩ | ⟨_, _, cs, q1, q2⟩
          · exact RVR.im (r := ⟨false, r.t, r.x⟩) rfl ⟨cs, q1, OwnRep.rep hS r.t (fun b hb => hF b (List.mem_append.2 (.inl hb)) fun hm => hdis b hb b (hs.subset hm) rfl) q2⟩
          · exact RVR.im (r := ⟨false, r.t, r.x⟩) rfl ⟨cs, q1, Rep.keep (fun b hb => ⟨hS b hb, rfl⟩) r.t cs _ q2⟩
        | false =>
          refine ⟨F1 ++ F', (List.Sublist.refl F1).append hs, fun S' hS hF => ⟨F1, F', rfl, h1.up hS, hk S' hS fun b hb hn => hF b (List.mem_append.2 (.inr hb)) fun hm => ?_⟩⟩
          rcases List.mem_append.1 hm with hm | hm
          · exact hdis b hm b hb rfl
          · exact hn hm

theorem OutsR.up {S S' : Nat → Prop} {w : World} (hS : ∀ b, S b → S' b) : ∀ {as : List Arg} {vs : List Value} {Fs : List (List Nat)} {os : List TD}, OutsR S w as vs Fs os → OutsR S' w as vs Fs os
  | [], [], [], [], h => h
  | .own t x :: as, v :: vs, F :: Fs, o :: os, ⟨⟨e, cs, h1, h2⟩, h⟩ => ⟨⟨e, cs, h1, OwnRep.up hS t h2⟩, OutsR.up hS h⟩
  | .imm _ _ :: as, _ :: vs, _ :: Fs, os, h => OutsR.up (as := as) (vs := vs) (Fs := Fs) (os := os) hS h
  | .pimm _ _ :: as, _ :: vs, _ :: Fs, os, h => OutsR.up (as := as) (vs := vs) (Fs := Fs) (os := os) hS h
  | .fn _ :: as, _ :: vs, _ :: Fs, os, h => OutsR.up (as := as) (vs := vs) (Fs := Fs) (os := os) hS h
  | .mv _ _ :: as, _ :: vs, _ :: Fs, os, h => OutsR.up (as := as) (vs := vs) (Fs := Fs) (os := os) hS h
  | .nl :: as, _ :: vs, _ :: Fs, os, h => OutsR.up (as := as) (vs := vs) (Fs := Fs) (os := os) hS h
  | [], [], [], _ :: _, h => h.elim
  | [], [], _ :: _, _, h => h.elim
  | [], _ :: _, _, _, h => h.elim
  | .own _ _ :: _, [], _, _, h => h.elim
  | .own _ _ :: _, _ :: _, [], _, h => h.elim
  | .own _ _ :: _, _ :: _, _ :: _, [], h => h.elim
  | .imm _ _ :: _, [], _, _, h => h.elim
  | .imm _ _ :: _, _ :: _, [], _, h => h.elim
  | .pimm _ _ :: _, [], _, _, h => h.elim
  | .pimm _ _ :: _, _ :: _, [], _, h => h.elim
  | .fn _ :: _, [], _, _, h => h.elim
  | .fn _ :: _, _ :: _, [], _, h => h.elim
  | .mv _ _ :: _, [], _, _, h => h.elim
  | .mv _ _ :: _, _ :: _, [], _, h => h.elim
  | .nl :: _, [], _, _, h => h.elim
  | .nl :: _, _ :: _, [], _, h => h.elim

def noMv : List Arg → Bool
  | [] => true
  | .mv _ _ :: _ => false
  | _ :: as => noMv as

theorem MvF.none : ∀ {as : List Arg} {Fs : List (List Nat)}, noMv as = true → MvF as Fs = []
  | [], _, _ => by simp [MvF]
  | _ :: _, [], _ => by simp [MvF]
  | a :: as, F :: Fs, h => by
    cases a with
    | mv t x => cases h
    | _ => exact MvF.none (as := as) (Fs := Fs) h

/-- A call's new memory told as data. -/
theorem CallOK.frz {P : Program} {f : FuncId} {args : List Arg} {rs : List RV} {outs : List TD} (fs : List Bool) (hm : noMv args = true) (h : CallOK P f args rs outs) : CallOK P f args (frzR fs rs) outs := by
  refine ⟨h.1, fun w S vals Fs h1 h2 h3 h4 => (h.2 w S vals Fs h1 h2 h3 h4).mono fun e w' ⟨v, F, e1, ⟨vs, hr, hv⟩, hnd, hF, hk, ho⟩ => ?_⟩
  obtain ⟨F', hs, hfz⟩ := hr.frz (fs := fs) hnd
  have hmono : ∀ b, Behind S w w' F b → Behind S w w' F' b := fun b ⟨q1, q2, q3⟩ => ⟨q1, q2, fun hm => q3 (hs.subset hm)⟩
  exact ⟨v, F', e1, ⟨vs, hfz _ hmono fun b hb hn => ⟨(hF b hb).2, fun hlt => absurd (hF b hb).1 (by rw [MvF.none hm]; simp; omega), hn⟩, hv⟩, hs.nodup hnd, fun b hb => hF b (hs.subset hb), hk, ho.up hmono⟩

end Go.Ide

/-
  Noughts appended to an empty slice.
-/
namespace Go.Ide

/-- 'append(s, make([]E, n)...)' of an empty slice without room. -/
def iAppendZ (P : Program) (nx : Nat) (T T' : TypeId) (t : Ty) (s x : IVal) : Option Eff :=
  match P.underlying T, P.underlying T', s, x with
  | some (.slice e), some (.int _), .one .nilS, .one (.dat (.int _) n) => (match P.info? e, zeroD P e t with
    | some i, some z => bif Nat.beq i.size t.size && Nat.ble i.bytes 32768 then
        some ⟨.one (.all nx), [(nx, .seq t (List.replicate (Int.toNat n) z))], [], [(0 : Int) ≤ n ∧ n ≤ 4294967296]⟩ else none
    | _, _ => none)
  | _, _, _, _ => none

section
variable {cx : Cx} {g : GM} {st : St} {a : Act} {w : World} {P : Program}

theorem run_appz_grow {t u ty e : TypeId} {i : TypeInfo} {z : Value} {ku k : IntKind} (ht : P.underlying t = some (.slice e)) (hu : P.underlying u = some (.int ku)) (hi : P.info? e = some i) (hz : i.zero = some z)
    {base : Option Addr} {n : Nat} (hn : 0 < n) (hsz : 0 < i.size) (hle : n ≤ 4294967296) (hby : i.bytes ≤ 32768) :
    (Builtin.append_ #[t, u] ty #[.slice base 0 0, .int k (n : Int)]).run P w =
      .ok (.slice (some ⟨w.heap.size, 0, none⟩) n (grownCap w n 0 e))
        (w.drew.alloc (.cells (Builtin.zeroCells z.cells n ++ Builtin.zeroCells z.cells (grownCap w n 0 e - n)) e)) := by
  have hb : n * i.bytes ≤ 140737488355328 := by
    calc n * i.bytes ≤ 4294967296 * 32768 := Nat.mul_le_mul hle hby
      _ = 140737488355328 := by decide
  have wl : IntKind.i64.wrap (n : Int) = n := by rw [IntKind.wrap_i64]; omega
  have n0 : ¬ ((n : Int) < 0) := by omega
  have hb2 : ¬ (281474976710656 < (n : Int) * (i.bytes : Int)) := by
    rw [← Int.natCast_mul]; omega
  have hroom : ¬ (n ≤ 0) := by omega
  have hroom' : ¬ (n = 0) := by omega
  have h63' : ¬ (9223372036854775807 < (n : Int)) := by omega
  have h48 := growslice_fits (old := 0) (by omega) hb
  have h48' : ¬ (281474976710656 < Builtin.nextslicecap n 0 * i.bytes) := by omega
  have hne : ¬ (n = 0 ∨ i.size = 0) := by omega
  have hne2 : ¬ (n * i.size = 0) := by rw [Nat.mul_eq_zero]; exact hne
  have hfo : (Builtin.firstCells i.size 0 (.slice base 0 0)).run P w.drew = .ok #[] w.drew := by
    cases base <;> simp [Builtin.firstCells, loadCells, loadCellsFrom]
  simp [Builtin.append_, run_underlying ht, run_underlying hu, sizeOf, typeInfo, zeroValue, hi, hz, asInt, asIntOf, wl, n0, hb2, hroom', h63', h48', hne, hne2, Question.forced, hfo, newRow, grownCap]

theorem run_appz_none {t u ty e : TypeId} {i : TypeInfo} {ku k : IntKind} (ht : P.underlying t = some (.slice e)) (hu : P.underlying u = some (.int ku)) (hi : P.info? e = some i) {base : Option Addr} :
    (Builtin.append_ #[t, u] ty #[.slice base 0 0, .int k 0]).run P w = .ok (.slice base 0 0) w := by
  have wl : IntKind.i64.wrap 0 = 0 := by rw [IntKind.wrap_i64]; omega
  cases base <;> simp [Builtin.append_, run_underlying ht, run_underlying hu, sizeOf, typeInfo, hi, asInt, asIntOf, wl, storeCells]

theorem iAppendZ_sound {T T' : TypeId} {ty : TypeId} {t : Ty} {s x : IVal} {e : Eff} {sv xv : Value} (h : Sim cx g st a w) (hw : Fresh st.mem e.new) (he : iAppendZ cx.P st.nx T T' t s x = some e) (hc : AllP e.cond)
    (hs : VR g st.mem (cx.safe g st.mem w) w s sv) (hx : VR g st.mem (cx.safe g st.mem w) w x xv) : Runs cx st a w (Builtin.append_ #[T, T'] ty #[sv, xv]) e := by
  unfold iAppendZ at he
  split at he
  · rename_i el ku k n hu hu'
    have hxv := dat_int (g := g) (m := st.mem) (S := cx.safe g st.mem w) (w := w) hx
    subst hxv
    obtain ⟨ab, hsv⟩ := hs
    subst hsv
    split at he
    · rename_i i z0 hi hz0
      cases hb : (Nat.beq i.size t.size && Nat.ble i.bytes 32768) with
      | false => simp [hb] at he
      | true =>
        rw [hb] at he
        simp only [cond_true] at he
        simp only [Bool.and_eq_true] at hb
        have hsz := beq_of hb.1
        have hby := ble_of hb.2
        injection he with he
        subst he
        obtain ⟨⟨h0, h1⟩, _⟩ := hc
        obtain ⟨q, rfl⟩ := Int.eq_ofNat_of_zero_le (show (0 : Int) ≤ n from h0)
        have hq : q ≤ 4294967296 := by have : ((q : Nat) : Int) ≤ 4294967296 := h1; omega
        unfold zeroD at hz0
        rw [hi] at hz0
        cases hzz : i.zero with
        | none => simp [hzz] at hz0
        | some z =>
          simp only [hzz] at hz0
          have hrep : ∀ (S' : Nat → Prop) (w' : World), Rep S' w' t z.cells.toList z0 := fun S' w' => by
            obtain ⟨cs, hval, hrep⟩ := vdat_rep (g := fun _ => none) (m := []) (S := S') (S2 := S') (fun _ h => h) ReadM.nil hz0 (cstV_VR (w := w') z)
            rw [valOf_cells hval hrep]; exact hrep
          have hzlen : z.cells.size = t.size := by rw [← Array.length_toList]; exact Rep.len t _ z0 (hrep (fun _ => True) w)
          have hzp := t.size_pos
          simp only [Int.toNat_natCast]
          by_cases hq0 : q = 0
          · subst hq0
            refine ⟨_, _, run_appz_none (P := cx.P) hu hu' hi, ?_⟩
            exact Did.newAt (G := []) (up := []) (gk := none) h hw ⟨rfl, rfl, rfl⟩ (.inl rfl) (KeepF.refl _ _) (.inl rfl) (fun b hb => by cases hb) (fun S' hS => rfl) ⟨ab, rfl⟩
          · have hge := grownCap_ge w q 0 el
            have hmx := grownCap_le_maxLen w q 0 el (by unfold maxLen; omega)
            refine ⟨_, _, run_appz_grow (P := cx.P) hu hu' hi hzz (by omega) (by omega) hq hby, ?_⟩
            have hblk := blk.new w.drew (Builtin.zeroCells z.cells q ++ Builtin.zeroCells z.cells (grownCap w q 0 el - q)) el
            refine Did.newAt (G := []) (up := []) (gk := some w.heap.size) h hw ⟨rfl, rfl, rfl⟩ (.inl rfl) ((KeepF.drew [] w).trans (KeepF.alloc _ _ _)) (.inl rfl) (fun b hb => by injection hb with hb; left; omega) (fun S' hS => ⟨_, hblk, ?_⟩) ?_
            · intro i' hi'
              simp only [List.length_replicate] at hi'
              refine ⟨z.cells.toList, fun j u hj => ?_, ?_⟩
              · have hj' : j < t.size := by rw [← hzlen, ← Array.length_toList]; exact (List.getElem?_eq_some_iff.1 hj).1
                have hlt : i' * t.size + j < q * t.size := by
                  have : (i' + 1) * t.size ≤ q * t.size := Nat.mul_le_mul_right _ (by omega)
                  rw [Nat.add_mul] at this
                  omega
                have hmod : (i' * t.size + j) % t.size = j := by rw [Nat.add_comm, Nat.mul_comm, Nat.add_mul_mod_self_left]; exact Nat.mod_eq_of_lt hj'
                rw [Array.getElem?_append_left (by rw [size_zeroCells, hzlen]; exact hlt)]
                have hjz : j < z.cells.size := by rw [hzlen]; exact hj'
                simp only [Builtin.zeroCells, hzlen, Array.getElem?_map, Array.getElem?_range, hlt, if_true, Option.map_some, hmod]
                rw [getElem!_pos z.cells j hjz, ← Array.getElem?_eq_getElem hjz, ← Array.getElem?_toList]
                exact hj
              · simp only [List.getElem_replicate]
                exact hrep _ _
            · refine ⟨grownCap w q 0 el, _, by simp, by simpa using hge, hblk, ?_, hmx⟩
              simp only [Array.size_append, size_zeroCells, hzlen, ← Nat.add_mul]
              exact Nat.mul_le_mul_right _ (by omega)
    · cases he
  · cases he

end
end Go.Ide

/-
  An operation of a region: what it does in the ideal machine, and that the model does so.
-/
namespace Go.Ide

def evl (fr : Fr) : List Operand → Option (List IVal)
  | [] => some []
  | x :: r => match ev fr x, evl fr r with
    | some v, some l => some (v :: l)
    | _, _ => none

def evo (fr : Fr) : Option Operand → Option (Option IVal)
  | none => some none
  | some x => match ev fr x with
    | some v => some (some v)
    | none => none

def iLenT (P : Program) (m : Mem) (T : TypeId) (x : IVal) : Option Eff :=
  match P.underlying T, x with
  | some .string, .one (.dat .str _) => iLen m x
  | some (.slice _), .one (.dat (.sl _) _) => iLen m x
  | some (.slice _), .one (.all _) => iLen m x
  | some (.slice _), .one (.ref _ _ _) => iLen m x
  | some (.slice _), .one .nilS => iLen m x
  | _, _ => none

def iIndex (P : Program) (T : TypeId) (x i : IVal) : Option Eff :=
  match P.underlying T, x, i with
  | some .string, .one (.dat .str s), .one (.dat (.int _) n) =>
    pureC (.one (.dat (.int .u8) ((((List.getD s (Int.toNat n) 0 : UInt8).toNat : Nat)) : Int))) [(0 : Int) ≤ n ∧ n < ((List.length s : Nat) : Int)]
  | _, _, _ => none

def iNil (x : IVal) : Option Eff :=
  match x with
  | .one (.ptr c off) => pureE (.one (.ptr c off))
  | .one (.ip t y off) => pureE (.one (.ip t y off))
  | .one (.elp c i sz off) => pureE (.one (.elp c i sz off))
  | _ => none

def iBuiltin (P : Program) (fr : Fr) (m : Mem) (nx : Nat) (h : Hint) (b : Builtin) (args : List Operand) (ts : List TypeId) : Option Eff :=
  match b, args, ts with
  | .len, [x], [T] => (match ev fr x with
    | some v => iLenT P m T v
    | none => none)
  | .append, [s, x], [T, T'] => (match h, ev fr s, ev fr x with
    | .ty t, some sv, some xv => iAppend P m nx T T' t sv xv
    | .no, some sv, some xv => iAppendS P m nx T T' sv xv
    | .tyD t, some sv, some xv => iAppendZ P nx T T' t sv xv
    | _, _, _ => none)
  | .min, [x, y], _ => (match ev fr x, ev fr y with
    | some xv, some yv => iMin xv yv
    | _, _ => none)
  | .max, [x, y], _ => (match ev fr x, ev fr y with
    | some xv, some yv => iMax xv yv
    | _, _ => none)
  | .cap, [x], [T] => (match ev fr x, P.underlying T with
    | some (.one .nilS), some (.slice _) => pureE (.one (.dat (.int .i64) (0 : Int)))
    | _, _ => none)
  | _, _, _ => none

def iop (P : Program) (fr : Fr) (m : Mem) (nx : Nat) (h : Hint) (o : Oper) : Option Eff :=
  match o.op with
  | .move x => (match ev fr x with
    | some v => pureE v
    | none => none)
  | .assign x => (match ev fr x with
    | some v => pureE v
    | none => none)
  | .pick c x y => (match h with
    | .tv b => (match ev fr c, ev fr (if b then x else y) with
      | some cv, some v => iPick b cv v v
      | _, _ => none)
    | _ => none)
  | .alloc T => iAlloc P nx T
  | .box _ x => (match ev fr x with
    | some v => iBox nx v
    | none => none)
  | .build T parts => (match evs fr parts.toList with
    | some vs => iBuild P T vs
    | none => none)
  | .buildSlice T len parts => (match h, evs fr parts.toList with
    | .ty t, some vs => iBuildSlice P nx T t len vs
    | .tyD t, some vs => iBuildSliceD P nx T t len vs
    | .no, some vs => iEmpty P T len vs
    | _, _ => none)
  | .load T x => (match ev fr x with
    | some v => iLoad P m T v
    | none => none)
  | .store T x y => (match ev fr x, ev fr y with
    | some xv, some yv => iStore P m T xv yv
    | _, _ => none)
  | .nilCheck x => (match ev fr x with
    | some v => iNil v
    | none => none)
  | .binOp op T x y _ => (match ev fr x, ev fr y with
    | some xv, some yv => iBinF P T op xv yv
    | _, _ => none)
  | .unOp op _ x => (match ev fr x with
    | some v => iUnF op v
    | none => none)
  | .convert T U x => (match ev fr x with
    | some v => iConvertM P m nx T U v
    | none => none)
  | .makeSlice T l c => (match h, ev fr l, ev fr c with
    | .ty t, some lv, some cv => iMakeSlice P nx T t lv cv
    | _, _, _ => none)
  | .slice T x lo hi none => (match ev fr x, evo fr lo, evo fr hi with
    | some v, some l, some h => iSlice P m T v l h
    | _, _, _ => none)
  | .slice T x lo hi (some q) => (match ev fr x, evo fr lo, evo fr hi, ev fr q with
    | some v, some l, some h, some r => iSliceM P T v l h (some r)
    | _, _, _, _ => none)
  | .fieldAddr T x f => (match ev fr x with
    | some v => iFieldAddr P T v f
    | none => none)
  | .indexAddr T x i => (match ev fr x, ev fr i with
    | some v, some j => iIndexAddr P m T v j
    | _, _ => none)
  | .index T x i => (match ev fr x, ev fr i with
    | some v, some j => iIndex P T v j
    | _, _ => none)
  | .extract x i => (match ev fr x with
    | some v => iExtract v i
    | none => none)
  | .call c => (match c.callee with
    | .builtin b => iBuiltin P fr m nx h b c.args.toList c.argTypes.toList
    | .value f => (match h, ev fr f, evl fr c.args.toList with
      | .call ms rs outs, some (.one (.fn k)), some vs => iCall P m nx ms rs outs k vs
      | _, _, _ => none)
    | _ => none)
  | _ => none

section
variable {cx : Cx} {g : GM} {st : St} {a : Act} {w : World}

theorem evl_VR (h : Sim cx g st a w) : ∀ {xs : List Operand} {vs : List IVal}, evl st.fr xs = some vs → All2 (VR g st.mem (cx.safe g st.mem w) w) vs (xs.map a.eval)
  | [], vs, he => by simp only [evl] at he; injection he with he; subst he; trivial
  | x :: xs, vs, he => by
    simp only [evl] at he
    split at he
    · rename_i v l hv hl
      injection he with he
      subst he
      exact ⟨ev_VR h hv, evl_VR h hl⟩
    · cases he

theorem evo_VR (h : Sim cx g st a w) {x : Option Operand} {v : Option IVal} (he : evo st.fr x = some v) : OR g st.mem (cx.safe g st.mem w) w v (x.map a.eval) := by
  cases x with
  | none => simp only [evo] at he; injection he with he; subst he; trivial
  | some x =>
    simp only [evo] at he
    split at he
    · rename_i u hu
      injection he with he
      subst he
      exact ev_VR h hu
    · cases he

theorem evs_VR (h : Sim cx g st a w) : ∀ {xs : List (Nat × Operand)} {vs : List (Nat × IVal)}, evs st.fr xs = some vs →
    All2 (fun (p : Nat × IVal) (q : Nat × Value) => p.1 = q.1 ∧ VR g st.mem (cx.safe g st.mem w) w p.2 q.2) vs (xs.map fun (i, x) => (i, a.eval x))
  | [], vs, he => by simp only [evs] at he; injection he with he; subst he; trivial
  | (i, x) :: xs, vs, he => by
    simp only [evs] at he
    split at he
    · rename_i v l hv hl
      injection he with he
      subst he
      exact ⟨⟨rfl, ev_VR h hv⟩, evs_VR h hl⟩
    · cases he

/-- The operation gives a value, or enters a function that comes back with one. -/
def Does (cx : Cx) (st : St) (a : Act) (w : World) (o : Oper) (e : Eff) : Prop :=
  (∃ val w', (execOp a.eval o).run cx.P w = .ok (.value val) w' ∧ Did cx st a e val w') ∨
  (∃ w', (execOp a.eval o).run cx.P w = .ok .skip w' ∧ Did cx st a e undef w') ∨
  (∃ f args, (execOp a.eval o).run cx.P w = .ok (.enter f args) w ∧ Calls cx.P f args w fun en w' => ∃ v, en = .returned v ∧ Did cx st a e v w')

theorem Does.wp {o : Oper} {e : Eff} {K : Act → World → Prop} {Q : Exit → Act → World → Prop} (h : Does cx st a w o e) (hk : ∀ val w', Did cx st a e val w' → K (a.put o.dst val) w') : o.wp cx.P a w K Q := by
  unfold Oper.wp
  rcases h with ⟨val, w', h1, h2⟩ | ⟨w', h1, h2⟩ | ⟨f, args, h1, h2⟩
  · rw [h1]; exact hk val w' h2
  · rw [h1]; exact hk undef w' h2
  · rw [h1]
    exact h2.mono fun en w' ⟨v, e1, hd⟩ => by subst e1; exact hk v w' hd

theorem Runs.does {o : Oper} {e : Eff} {s : Sem Value} (h : Runs cx st a w s e) (he : execOp a.eval o = (do pure (.value (← s)))) : Does cx st a w o e := by
  obtain ⟨val, w', h1, h2⟩ := h
  exact .inl ⟨val, w', by rw [he]; simp [h1], h2⟩

theorem RunsU.does {o : Oper} {e : Eff} {s : Sem Unit} (h : RunsU cx st a w s e) (he : execOp a.eval o = (do s; pure .skip)) : Does cx st a w o e := by
  obtain ⟨w', h1, h2⟩ := h
  exact .inr (.inl ⟨w', by rw [he]; simp [h1], h2⟩)

theorem Does.pure {o : Oper} {e : Eff} {v : IVal} {val : Value} (h : Sim cx g st a w) (he : execOp a.eval o = Pure.pure (.value val)) (hp : e.new = [] ∧ e.upd = [] ∧ e.val = v) (hv : VR g st.mem (cx.safe g st.mem w) w v val) : Does cx st a w o e := by
  refine .inl ⟨val, w, by rw [he]; rfl, g, ?_, ?_⟩
  · rw [hp.1, hp.2.1]; exact h
  · rw [hp.1, hp.2.1, hp.2.2]; exact hv

/-- Numbers, strings, bools. -/
def PlainV (u : Value) : Prop := (∃ k n, u = .int k n) ∨ (∃ s, u = .string s) ∨ (∃ b, u = .bool b)

theorem eqGuard_flt {P : Program} {op : BinOp} {T : TypeId} {x y : Operand} {k : FloatKind} {b : Nat} {v : Value} : (eqGuard op T x y (.float k b) v).run P w = .ok () w := by
  cases op <;> cases v <;> rfl

theorem eqGuard_run {P : Program} {op : BinOp} {T : TypeId} {x y : Operand} {u v : Value} (h : PlainV u) : (eqGuard op T x y u v).run P w = .ok () w := by
  rcases h with ⟨k, n, rfl⟩ | ⟨s, rfl⟩ | ⟨b, rfl⟩ <;> cases op <;> cases v <;> rfl

theorem iBin_vals {op : BinOp} {T : TypeId} {x y : IVal} {e : Eff} {u : Value} (he : iBin cx.P T op x y = some e) (hx : VR g st.mem (cx.safe g st.mem w) w x u) : PlainV u := by
  unfold iBin at he
  split at he
  · exact .inl ⟨_, _, dat_int (g := g) (m := st.mem) (S := cx.safe g st.mem w) (w := w) hx⟩
  · exact .inr (.inl ⟨_, dat_str (g := g) (m := st.mem) (S := cx.safe g st.mem w) (w := w) hx⟩)
  · exact .inr (.inr ⟨_, dat_bool (g := g) (m := st.mem) (S := cx.safe g st.mem w) (w := w) hx⟩)
  · cases he

theorem iBinF_guard {op : BinOp} {T : TypeId} {x y : IVal} {xo yo : Operand} {e : Eff} {u v : Value} {w' : World} (he : iBinF cx.P T op x y = some e) (hx : VR g st.mem (cx.safe g st.mem w) w x u)
    (hy : VR g st.mem (cx.safe g st.mem w) w y v) : (eqGuard op T xo yo u v).run cx.P w' = .ok () w' := by
  unfold iBinF at he
  split at he
  · obtain ⟨b, e, _⟩ := dat_flt (g := g) (m := st.mem) (S := cx.safe g st.mem w) (w := w) hx
    rw [e]
    exact eqGuard_flt
  · obtain ⟨us, rfl, _⟩ := hx
    obtain ⟨vs, rfl, _⟩ := hy
    exact iStructEq_guard he
  · exact eqGuard_run (iBin_vals he hx)

theorem iIndex_sound {P : Program} {m : Mem} {S : Nat → Prop} {T : TypeId} {x i : IVal} {e : Eff} {xa ia : Value} (h : iIndex P T x i = some e) (hc : AllP e.cond) (hx : VR g m S w x xa) (hi : VR g m S w i ia) : Gives P g m S w (Instr.index T xa ia) e := by
  unfold iIndex at h
  split at h
  · rename_i s k n hu
    obtain ⟨he, hco⟩ := pureC_eq h
    rw [hco] at hc
    obtain ⟨⟨h0, h1⟩, _⟩ := hc
    have e1 := dat_str (g := g) (m := m) (S := S) (w := w) hx
    have e2 := dat_int (g := g) (m := m) (S := S) (w := w) hi
    subst e1
    subst e2
    have hlt : Int.toNat n < List.length s := toNat_lt h0 h1
    refine Gives.mk he (r := .int .u8 ((((List.getD s (Int.toNat n) 0 : UInt8).toNat : Nat)) : Int)) ?_ rfl
    have hsz : Int.toNat n < (⟨List.toArray s⟩ : ByteArray).size := by simpa [ByteArray.size] using hlt
    have hget : (⟨List.toArray s⟩ : ByteArray)[Int.toNat n]? = some (List.getD s (Int.toNat n) 0) := by
      rw [getElem?_pos (⟨List.toArray s⟩ : ByteArray) (Int.toNat n) hsz]
      congr 1
      rw [getD_eq hlt]
      rfl
    have h0' : (0 : Int) ≤ n := h0
    simp only [Instr.index, Sem.run_bind, run_underlying hu, Result.andThen_ok, asIntOf, Sem.run_pure]
    rw [if_pos h0', hget]
    rfl
  · cases h

theorem iop_sound {h : Hint} {o : Oper} {e : Eff} (hs : Sim cx g st a w) (hw : Fresh st.mem e.new) (he : iop cx.P st.fr st.mem st.nx h o = some e) (hc : AllP e.cond) : Does cx st a w o e := by
  unfold iop at he
  split at he
  · rename_i x ho
    split at he
    · rename_i v hv
      exact Does.pure hs (by simp only [execOp, ho]) (pureE_eq he) (ev_VR hs hv)
    · cases he
  · rename_i x ho
    split at he
    · rename_i v hv
      exact Does.pure hs (by simp only [execOp, ho]) (pureE_eq he) (ev_VR hs hv)
    · cases he
  · rename_i c x y ho
    split at he
    · rename_i b
      split at he
      · rename_i cv v hcv hv
        unfold iPick at he
        split at he
        · rename_i t
          obtain ⟨hp, hco⟩ := pureC_eq he
          rw [hco] at hc
          have ht : t = b := hc.1
          have e1 := dat_bool (g := g) (m := st.mem) (S := cx.safe g st.mem w) (w := w) (ev_VR hs hcv)
          have hv' := ev_VR hs hv
          refine .inl ⟨a.eval (if b then x else y), w, ?_, g, ?_, ?_⟩
          · simp only [execOp, ho, e1, asBool]
            rw [ht]
            cases b <;> rfl
          · rw [hp.1, hp.2.1]; exact hs
          · rw [hp.1, hp.2.1, hp.2.2]
            cases b <;> exact hv'
        · cases he
      · cases he
    · cases he
  · rename_i T ho
    exact (iAlloc_sound hs hw he).does (by simp only [execOp, ho])
  · rename_i T x ho
    split at he
    · rename_i v hv
      exact (iBox_sound (T := T) hs hw he (ev_VR hs hv)).does (by simp only [execOp, ho])
    · cases he
  · rename_i T parts ho
    split at he
    · rename_i vs hvs
      have := iBuild_sound (P := cx.P) (g := g) (m := st.mem) (S := cx.safe g st.mem w) (w := w) (vparts := parts.map fun (i, x) => (i, a.eval x)) he (by simpa using evs_VR hs hvs)
      exact (this.runs hs).does (by simp only [execOp, ho])
    · cases he
  · rename_i T len parts ho
    split at he
    · rename_i t vs hvs
      have := iBuildSlice_sound (vparts := parts.map fun (i, x) => (i, a.eval x)) hs hw he (by simpa using evs_VR hs hvs)
      exact this.does (by simp only [execOp, ho])
    · rename_i t vs hvs
      have := iBuildSliceD_sound (vparts := parts.map fun (i, x) => (i, a.eval x)) hs he (by simpa using evs_VR hs hvs)
      exact this.does (by simp only [execOp, ho])
    · rename_i vs hvs
      have := iEmpty_sound (vparts := parts.map fun (i, x) => (i, a.eval x)) hs he (by simpa using evs_VR hs hvs)
      exact this.does (by simp only [execOp, ho])
    · cases he
  · rename_i T x ho
    split at he
    · rename_i v hv
      exact ((iLoad_sound hs.mem he hc (ev_VR hs hv)).runs hs).does (by simp only [execOp, ho])
    · cases he
  · rename_i T x y ho
    split at he
    · rename_i xv yv hx hy
      exact (iStore_sound hs he hc (ev_VR hs hx) (ev_VR hs hy)).does (by simp only [execOp, ho])
    · cases he
  · rename_i x ho
    split at he
    · rename_i v hv
      have hv' := ev_VR hs hv
      unfold iNil at he
      split at he
      · obtain ⟨_, b, _, e1⟩ := hv'
        exact Does.pure hs (by simp [execOp, ho, e1]; rfl) (pureE_eq he) (by rw [← e1]; exact ev_VR hs hv)
      · obtain ⟨ad, es, e1, _⟩ := hv'
        exact Does.pure hs (by simp [execOp, ho, e1]; rfl) (pureE_eq he) (by rw [← e1]; exact ev_VR hs hv)
      · obtain ⟨_, b, _, e1⟩ := hv'
        exact Does.pure hs (by simp [execOp, ho, e1]; rfl) (pureE_eq he) (by rw [← e1]; exact ev_VR hs hv)
      · cases he
    · cases he
  · rename_i op T x y T' ho
    split at he
    · rename_i xv yv hx hy
      obtain ⟨r, w', k3, k4⟩ := iBinF_sound hs he hc (ev_VR hs hx) (ev_VR hs hy)
      refine .inl ⟨r, w', ?_, k4⟩
      have hg := iBinF_guard (xo := x) (yo := y) (w' := w) he (ev_VR hs hx) (ev_VR hs hy)
      simp only [execOp, ho, Sem.run_bind, hg, Result.andThen_ok, k3, Sem.run_pure]
    · cases he
  · rename_i op T x ho
    split at he
    · rename_i v hv
      exact ((iUnF_sound he (ev_VR hs hv)).runs hs).does (by simp only [execOp, ho])
    · cases he
  · rename_i T U x ho
    split at he
    · rename_i v hv
      exact (iConvertM_sound hs hw he hc (ev_VR hs hv)).does (by simp only [execOp, ho])
    · cases he
  · rename_i T l c ho
    split at he
    · rename_i t lv cv hl hcv
      exact (iMakeSlice_sound hs hw he hc (ev_VR hs hl) (ev_VR hs hcv)).does (by simp only [execOp, ho])
    · cases he
  · rename_i T x lo hi ho
    split at he
    · rename_i v l h' hv hl hh
      exact ((iSlice_sound hs.mem he hc (ev_VR hs hv) (evo_VR hs hl) (evo_VR hs hh)).runs hs).does (by simp only [execOp, ho]; rfl)
    · cases he
  · rename_i T x lo hi q ho
    split at he
    · rename_i v l h' r hv hl hh hq
      exact ((iSliceM_sound he hc (ev_VR hs hv) (evo_VR hs hl) (evo_VR hs hh) (mx := some r) (qv := some (a.eval q)) (ev_VR hs hq)).runs hs).does (by simp only [execOp, ho]; rfl)
    · cases he
  · rename_i T x f ho
    split at he
    · rename_i v hv
      exact ((iFieldAddr_sound he (ev_VR hs hv)).runs hs).does (by simp only [execOp, ho])
    · cases he
  · rename_i T x i ho
    split at he
    · rename_i v j hv hj
      exact ((iIndexAddr_sound hs.mem he hc (ev_VR hs hv) (ev_VR hs hj)).runs hs).does (by simp only [execOp, ho])
    · cases he
  · rename_i T x i ho
    split at he
    · rename_i v j hv hj
      exact ((iIndex_sound he hc (ev_VR hs hv) (ev_VR hs hj)).runs hs).does (by simp only [execOp, ho])
    · cases he
  · rename_i x i ho
    split at he
    · rename_i v hv
      exact ((iExtract_sound he (ev_VR hs hv)).runs hs).does (by simp only [execOp, ho])
    · cases he
  · rename_i c ho
    split at he
    · rename_i b hb
      have hres : ∀ (consts : Array Bool), resolve a.eval c o.type = pure { target := .builtin b c.argTypes o.type (c.args.map fun | .const _ => true | _ => false), args := c.args.map a.eval } := fun _ => by
        unfold resolve; rw [hb]; rfl
      have hargs : ∀ l, c.args.toList = l → c.args.map a.eval = (l.map a.eval).toArray := fun l hl => by
        subst hl; apply Array.ext'; rw [Array.toList_map]
      have htys : ∀ l, c.argTypes.toList = l → c.argTypes = l.toArray := fun l hl => by subst hl; rfl
      unfold iBuiltin at he
      split at he
      · rename_i x T hal htl
        split at he
        · rename_i v hv
          have hv' := ev_VR hs hv
          have hg : Gives cx.P g st.mem (cx.safe g st.mem w) w (Builtin.len_ #[T] o.type #[a.eval x]) e := by
            unfold iLenT at he
            split at he
            · rename_i s hu
              refine iLen_sound (T := T) hs.mem (by simp [isSl, hu]) he hv' rfl (fun _ _ => hu) (fun a' n c' e' => ?_)
              have := dat_str (g := g) (m := st.mem) (S := cx.safe g st.mem w) (w := w) hv'
              rw [this] at e'; cases e'
            · rename_i el t xs hu
              refine iLen_sound (T := T) hs.mem (by simp [isSl, hu]) he hv' rfl (fun s e' => ?_) (fun _ _ _ _ => ⟨el, hu⟩)
              obtain ⟨a', cap, e1, _⟩ := hv'
              have e1 : a.eval x = .slice a' (List.length xs) cap := by simpa using e1
              rw [e1] at e'; cases e'
            · rename_i el c' hu
              refine iLen_sound (T := T) hs.mem (by simp [isSl, hu]) he hv' rfl (fun s e' => ?_) (fun _ _ _ _ => ⟨el, hu⟩)
              obtain ⟨n, _, hval⟩ := iLen_val hs.mem he hv'
              rcases hval with ⟨a', c0, e1⟩ | ⟨s', e1, _⟩
              · rw [e1] at e'; cases e'
              · unfold iLen at he
                simp only at he
                split at he
                · rename_i t xs hl
                  have hx := hv'.2.2 t xs hl
                  unfold AllR at hx
                  cases hg : g c' with
                  | none => rw [hg] at hx; obtain ⟨a', ha⟩ := hx; rw [ha] at e'; cases e'
                  | some b => rw [hg] at hx; obtain ⟨cap, arr, ha, _⟩ := hx; rw [ha] at e'; cases e'
                · cases he
            · rename_i el c' off len hu
              refine iLen_sound (T := T) hs.mem (by simp [isSl, hu]) he hv' rfl (fun s e' => ?_) (fun _ _ _ _ => ⟨el, hu⟩)
              unfold iLen at he
              simp only at he
              split at he
              · rename_i t xs hl
                obtain ⟨_, hx⟩ := hv'.2.2 t xs hl
                rcases hx with ⟨_, _, a', ha⟩ | ⟨b, cap, arr, _, ha, _⟩
                · rw [ha] at e'; cases e'
                · rw [ha] at e'; cases e'
              · cases he
            · rename_i el hu
              refine iLen_sound (T := T) hs.mem (by simp [isSl, hu]) he hv' rfl (fun s e' => ?_) (fun _ _ _ _ => ⟨el, hu⟩)
              obtain ⟨a', ha⟩ := hv'
              rw [ha] at e'; cases e'
            · cases he
          refine (hg.runs hs).does ?_
          simp only [execOp, ho, hres #[], hargs _ hal, htys _ htl]
          rfl
        · cases he
      · rename_i s x T T' hal htl
        split at he
        · rename_i t sv xv hsv hxv
          refine (iAppend_sound (ty := o.type) hs hw he hc (ev_VR hs hsv) (ev_VR hs hxv)).does ?_
          simp only [execOp, ho, hres #[], hargs _ hal, htys _ htl]
          rfl
        · rename_i sv xv hsv hxv
          refine (iAppendS_sound (ty := o.type) hs hw he hc (ev_VR hs hsv) (ev_VR hs hxv)).does ?_
          simp only [execOp, ho, hres #[], hargs _ hal, htys _ htl]
          rfl
        · rename_i t sv xv hsv hxv
          refine (iAppendZ_sound (ty := o.type) hs hw he hc (ev_VR hs hsv) (ev_VR hs hxv)).does ?_
          simp only [execOp, ho, hres #[], hargs _ hal, htys _ htl]
          rfl
        · cases he
      · rename_i x y _ hal
        split at he
        · rename_i xv yv hx hy
          refine ((iMin_sound (Ts := c.argTypes) (T := o.type) he (ev_VR hs hx) (ev_VR hs hy)).runs hs).does ?_
          simp only [execOp, ho, hres #[], hargs _ hal]
          rfl
        · cases he
      · rename_i x y _ hal
        split at he
        · rename_i xv yv hx hy
          refine ((iMax_sound (Ts := c.argTypes) (T := o.type) he (ev_VR hs hx) (ev_VR hs hy)).runs hs).does ?_
          simp only [execOp, ho, hres #[], hargs _ hal]
          rfl
        · cases he
      · rename_i x T hal htl
        split at he
        · rename_i el hv hu
          obtain ⟨ad, e1⟩ := ev_VR hs hv
          have hg : Gives cx.P g st.mem (cx.safe g st.mem w) w (Builtin.cap_ #[T] o.type #[a.eval x]) e := by
            refine Gives.mk (pureE_eq he) (r := .int .i64 0) ?_ rfl
            rw [e1]
            simp [Builtin.cap_, run_underlying hu, goInt]
          refine (hg.runs hs).does ?_
          simp only [execOp, ho, hres #[], hargs _ hal, htys _ htl]
          rfl
        · cases he
      · cases he
    · rename_i f hf
      split at he
      · rename_i ms rs outs k vs hk hvs
        have hfv : a.eval f = .func (.func k) #[] #[] := ev_VR hs hk
        obtain ⟨⟨fn, c1, c2, c3⟩, hcalls⟩ := iCall_sound hs hw he hc (evl_VR hs hvs)
        refine .inr (.inr ⟨k, (c.args.toList.map a.eval).toArray, ?_, hcalls⟩)
        have hargs : c.args.map a.eval = (c.args.toList.map a.eval).toArray := by apply Array.ext'; rw [Array.toList_map]
        simp only [execOp, ho, resolve, hf, hfv, Deferred.ofValue, Sem.run_bind, Sem.run_pure, Result.andThen_ok, invoke, callFunc, run_program, c1]
        simp only [c2, c3, hargs]
        simp
      · cases he
    · cases he
  · cases he

end
end Go.Ide

/-
  Regions in their order; pieces of code.
-/
namespace Go.Ide

/-- What is told of an operation: what its guard's test gives; what it needs besides. -/
structure OH where
  tv : Option Bool
  h : Hint

def dOK (N : Nat) : Option Tmp → Bool
  | some t => Nat.blt t N
  | none => true

def St.app (st : St) (d : Option Tmp) (e : Eff) : St := (st.setMem (e.upd ++ e.new ++ st.mem) (st.nx + e.new.length)).put d e.val

def gslot (all : List Oper) (j : Nat) : Option Tmp := (all[j]?).bind (·.dst)

def freshB (m : Mem) : Mem → Bool
  | [] => true
  | p :: l => (match lk p.1 m with
    | some _ => false
    | none => true) && freshB m l

theorem freshB_spec {m : Mem} : ∀ {l : Mem}, freshB m l = true → Fresh m l
  | [], _, p, hp => by simp at hp
  | q :: l, h, p, hp => by
    simp only [freshB, Bool.and_eq_true] at h
    rcases List.mem_cons.1 hp with e | hp
    · subst e
      cases hx : lk p.1 m with
      | none => rfl
      | some c => rw [hx] at h; cases h.1
    · exact freshB_spec h.2 p hp

/-- One operation, with its guard: whether it is carried out; its effect; its conditions. -/
def igop (P : Program) (all : List Oper) (o : Oper) (r : OH) (fr : Fr) (m : Mem) (nx : Nat) : Option (Eff × List Prop) :=
  match o.guard with
  | none => (match iop P fr m nx r.h o with
    | some e => some (e, e.cond)
    | none => none)
  | some (j, want) => (match r.tv, (gslot all j).bind (fun t => lk t fr) with
    | some tv, some (.one (.dat .bool b)) => bif tv == want then
        (match iop P fr m nx r.h o with
        | some e => some (e, (b = tv) :: e.cond)
        | none => none) else some (⟨.und, [], [], []⟩, [b = tv])
    | none, some .und => some (⟨.und, [], [], []⟩, [])
    | _, _ => none)

/-- One operation, with its guard. -/
def istep (P : Program) (N : Nat) (all : List Oper) (o : Oper) (r : OH) (st : St) : Option (St × List Prop) :=
  match igop P all o r st.fr st.mem st.nx with
  | some (e, cs) => bif dOK N o.dst && freshB st.mem e.new then some (st.app o.dst e, cs) else none
  | none => none

def ireg (P : Program) (N : Nat) (all : List Oper) : List Oper → List OH → St → Option (St × List Prop)
  | [], _, st => some (st, [])
  | o :: os, r :: rs, st => (match istep P N all o r st with
    | some (st1, c1) => (match ireg P N all os rs st1 with
      | some (st2, c2) => some (st2, c1 ++ c2)
      | none => none)
    | none => none)
  | _ :: _, [], _ => none

section
variable {cx : Cx} {g : GM} {st : St} {a : Act} {w : World}

theorem dOK_spec {N : Nat} {d : Option Tmp} (h : dOK N d = true) : ∀ t, d = some t → t < N := by
  intro t e
  subst e
  exact Nat.lt_of_succ_le (by simpa [dOK, Nat.blt] using h)

theorem Did.sim {e : Eff} {val : Value} {w' : World} (h : Did cx st a e val w') {d : Option Tmp} (hd : ∀ t, d = some t → t < cx.N) : ∃ g', Sim cx g' (st.app d e) (a.put d val) w' := by
  obtain ⟨g', h1, h2⟩ := h
  exact ⟨g', h1.put h2 d hd⟩

theorem guard_val {all : List Oper} {j : Nat} {b : Bool} (h : Sim cx g st a w) (hg : (gslot all j).bind (fun t => lk t st.fr) = some (.one (.dat .bool b))) : yielded all.toArray a.tmps j = some b := by
  unfold gslot at hg
  unfold yielded
  cases ho : all[j]? with
  | none => simp [ho] at hg
  | some o =>
    rw [ho] at hg
    simp only [Option.bind_some] at hg
    cases hd : o.dst with
    | none => simp [hd] at hg
    | some t =>
      rw [hd] at hg
      simp only [Option.bind_some] at hg
      have hv := h.fr t _ hg
      have hb : a.tmps.getD t undef = .bool b := dat_bool (g := g) (m := st.mem) (S := cx.safe g st.mem w) (w := w) hv
      have hlt : t < a.tmps.size := by
        rcases Nat.lt_or_ge t a.tmps.size with hlt | hge
        · exact hlt
        · rw [Array.getD_eq_getD_getElem?, Array.getElem?_eq_none hge] at hb; cases hb
      simp only [List.getElem?_toArray, ho, Option.bind_some, hd]
      rw [Array.getD_eq_getD_getElem?, Array.getElem?_eq_getElem hlt] at hb
      rw [Array.getElem?_eq_getElem hlt]
      simp only [Option.getD_some] at hb
      rw [hb]

theorem guard_und {all : List Oper} {j : Nat} (h : Sim cx g st a w) (hg : (gslot all j).bind (fun t => lk t st.fr) = some .und) : yielded all.toArray a.tmps j = none := by
  unfold gslot at hg
  unfold yielded
  cases ho : all[j]? with
  | none => simp [ho] at hg
  | some o =>
    rw [ho] at hg
    simp only [Option.bind_some] at hg
    cases hd : o.dst with
    | none => simp [hd] at hg
    | some t =>
      rw [hd] at hg
      simp only [Option.bind_some] at hg
      have hv : a.tmps.getD t undef = undef := h.fr t _ hg
      simp only [List.getElem?_toArray, ho, Option.bind_some, hd]
      rcases Nat.lt_or_ge t a.tmps.size with hlt | hge
      · rw [Array.getD_eq_getD_getElem?, Array.getElem?_eq_getElem hlt] at hv
        rw [Array.getElem?_eq_getElem hlt]
        simp only [Option.getD_some] at hv
        rw [hv]
        rfl
      · rw [Array.getElem?_eq_none hge]

theorem igop_sound {all : List Oper} {o : Oper} {r : OH} {e : Eff} {cs : List Prop} {Q : Exit → Act → World → Prop} {K : Act → World → Prop} (h : Sim cx g st a w) (he : igop cx.P all o r st.fr st.mem st.nx = some (e, cs)) (hw : Fresh st.mem e.new) (hd : dOK cx.N o.dst = true) (hc : AllP cs)
    (hk : ∀ g' a' w', Sim cx g' (st.app o.dst e) a' w' → K a' w') : if Region.wanted o (yielded all.toArray a.tmps) then o.wp cx.P a w K Q else K (a.put o.dst undef) w := by
  have hd := dOK_spec hd
  unfold igop at he
  split at he
  · rename_i hg
    split at he
    · rename_i e' hi
      injection he with he
      injection he with e1 e2
      subst e1
      subst e2
      simp only [Region.wanted, hg, if_true]
      refine (iop_sound h hw hi hc).wp fun val w' hdid => ?_
      obtain ⟨g', hs⟩ := hdid.sim hd
      exact hk g' _ _ hs
    · cases he
  · rename_i j want hg
    split at he
    · rename_i tv b htv hb
      have hy := guard_val h hb
      cases hcond : (tv == want) with
      | true =>
        rw [hcond] at he
        simp only [cond_true] at he
        split at he
        · rename_i e' hi
          injection he with he
          injection he with e1 e2
          subst e1
          subst e2
          have hbt : b = tv := hc.1
          have hwt : Region.wanted o (yielded all.toArray a.tmps) = true := by
            simp only [Region.wanted, hg, hy, hbt]
            simpa using hcond
          rw [if_pos hwt]
          refine (iop_sound h hw hi hc.2).wp fun val w' hdid => ?_
          obtain ⟨g', hs⟩ := hdid.sim hd
          exact hk g' _ _ hs
        · cases he
      | false =>
        rw [hcond] at he
        simp only [cond_false] at he
        injection he with he
        injection he with e1 e2
        subst e1
        subst e2
        have hbt : b = tv := hc.1
        have hwt : ¬ Region.wanted o (yielded all.toArray a.tmps) = true := by
          simp only [Region.wanted, hg, hy, hbt]
          simpa using hcond
        rw [if_neg hwt]
        exact hk g _ _ (h.put (v := .und) rfl o.dst hd)
    · rename_i htv hb
      injection he with he
      injection he with e1 e2
      subst e1
      subst e2
      have hwt : ¬ Region.wanted o (yielded all.toArray a.tmps) = true := by
        simp [Region.wanted, hg, guard_und h hb]
      rw [if_neg hwt]
      exact hk g _ _ (h.put (v := .und) rfl o.dst hd)
    · cases he

theorem istep_sound {all : List Oper} {o : Oper} {r : OH} {st' : St} {cs : List Prop} {Q : Exit → Act → World → Prop} {K : Act → World → Prop} (h : Sim cx g st a w) (he : istep cx.P cx.N all o r st = some (st', cs)) (hc : AllP cs)
    (hk : ∀ g' a' w', Sim cx g' st' a' w' → K a' w') : if Region.wanted o (yielded all.toArray a.tmps) then o.wp cx.P a w K Q else K (a.put o.dst undef) w := by
  unfold istep at he
  split at he
  · rename_i e cs' hi
    cases hd : (dOK cx.N o.dst && freshB st.mem e.new) with
    | false => rw [hd] at he; cases he
    | true =>
      rw [hd] at he
      simp only [cond_true] at he
      simp only [Bool.and_eq_true] at hd
      injection he with he
      injection he with e1 e2
      subst e1
      subst e2
      exact igop_sound h hi (freshB_spec hd.2) hd.1 hc hk
  · cases he

theorem ireg_sound {all : List Oper} {Q : Exit → Act → World → Prop} : ∀ {os : List Oper} {rs : List OH} {st st' : St} {cs : List Prop} {g : GM} {a : Act} {w : World},
    Sim cx g st a w → ireg cx.P cx.N all os rs st = some (st', cs) → AllP cs → (∀ g' a' w', Sim cx g' st' a' w' → Q .normal a' w') → wpList cx.P all.toArray Q os a w
  | [], rs, st, st', cs, g, a, w, h, he, hc, hk => by
    have he : some (st, []) = some (st', cs) := by cases rs <;> exact he
    injection he with he
    injection he with e1 e2
    subst e1
    exact hk g a w h
  | o :: os, [], st, st', cs, g, a, w, h, he, hc, hk => by cases he
  | o :: os, r :: rs, st, st', cs, g, a, w, h, he, hc, hk => by
    simp only [ireg] at he
    split at he
    · rename_i st1 c1 h1
      split at he
      · rename_i st2 c2 h2
        injection he with he
        injection he with e1 e2
        subst e1
        subst e2
        obtain ⟨hc1, hc2⟩ := hc.append
        refine wpList_step fun K hK => ?_
        exact istep_sound h h1 hc1 fun g' a' w' hs => hK a' w' (ireg_sound hs h2 hc2 hk)
      · cases he
    · cases he

/-- A piece of code, run from a state: how it may end. -/
def HT (cx : Cx) (st : St) (c : Code) (Q : Exit → St → Prop) : Prop :=
  ∀ g a w, Sim cx g st a w → c.wp cx.P (fun e a' w' => ∃ st' g', Q e st' ∧ Sim cx g' st' a' w') a w

variable {Q Q' : Exit → St → Prop} {c x y : Code}

theorem HT.mono (h : HT cx st c Q) (hq : ∀ e s, Q e s → Q' e s) : HT cx st c Q' :=
  fun g a w hs => wp_mono (h g a w hs) fun e _ _ ⟨s, g', h1, h2⟩ => ⟨s, g', hq e s h1, h2⟩

theorem HT.region {id : Nat} {ops : List Oper} {rs : List OH} {st' : St} {cs : List Prop} (he : ireg cx.P cx.N ops ops rs st = some (st', cs)) (hc : AllP cs) (hq : Q .normal st') : HT cx st (.region id ops.toArray false) Q :=
  fun g a w hs => wp_region_lit (ireg_sound hs he hc fun g' _ _ hs' => ⟨st', g', hq, hs'⟩)

theorem HT.skip (hq : Q .normal st) : HT cx st .skip Q := fun g _ _ hs => wp_skip ⟨st, g, hq, hs⟩
theorem HT.exit {id : Nat} (hq : Q (.exit id) st) : HT cx st (.exit id) Q := fun g _ _ hs => wp_exit ⟨st, g, hq, hs⟩
theorem HT.ret (hq : Q .ret st) : HT cx st .ret Q := fun g _ _ hs => wp_ret ⟨st, g, hq, hs⟩

/-- What follows. -/
def thenQ (cx : Cx) (y : Code) (Q : Exit → St → Prop) : Exit → St → Prop
  | .normal, s => HT cx s y Q
  | e, s => Q e s

theorem HT.seq (h : HT cx st x (thenQ cx y Q)) : HT cx st (.seq x y) Q := fun g a w hs => by
  refine wp_seq (wp_mono (h g a w hs) fun e a' w' ⟨s, g', h1, h2⟩ => ?_)
  cases e with
  | normal => exact h1 g' a' w' h2
  | _ => exact ⟨s, g', h1, h2⟩

theorem HT.cond {o : Operand} {b : Bool} (he : ev st.fr o = some (.one (.dat .bool b))) (h1 : b = true → HT cx st x Q) (h2 : b = false → HT cx st y Q) : HT cx st (.cond o x y) Q := fun g a w hs =>
  wp_cond_split (dat_bool (g := g) (m := st.mem) (S := cx.safe g st.mem w) (w := w) (ev_VR hs he)) (fun e => h1 e g a w hs) (fun e => h2 e g a w hs)

def blockQ (id : Nat) (Q : Exit → St → Prop) : Exit → St → Prop
  | .exit id', s => if id' = id then Q .normal s else Q (.exit id') s
  | e, s => Q e s

theorem HT.block {id : Nat} (h : HT cx st c (blockQ id Q)) : HT cx st (.block id c) Q := fun g a w hs => by
  refine wp_block (wp_mono (h g a w hs) fun e a' w' ⟨s, g', h1, h2⟩ => ?_)
  cases e with
  | exit id' =>
    simp only [Exit.inBlock, blockQ] at h1 ⊢
    split
    · rename_i e; rw [if_pos e] at h1; exact ⟨s, g', h1, h2⟩
    · rename_i e; rw [if_neg e] at h1; exact ⟨s, g', h1, h2⟩
  | _ => exact ⟨s, g', h1, h2⟩

def loopQ (J : St → Prop) (Q : Exit → St → Prop) : Exit → St → Prop
  | .normal, s => J s
  | e, s => Q e s

/-- A loop: states s of which some number of rounds is told. -/
theorem HT.loop {α : Type} {I : Nat → α → Prop} {S : α → St} {n : Nat} {s : α} (h0 : I n s) (hz : ∀ s, ¬ I 0 s)
    (round : ∀ n s, I (n + 1) s → HT cx (S s) c (loopQ (fun st' => ∃ s', st' = S s' ∧ I n s') Q)) : HT cx (S s) (.loop c) Q := fun g a w hs => by
  let J : Nat → Act → World → Prop := fun n a w => ∃ s g, I n s ∧ Sim cx g (S s) a w
  have hex : ∀ a w, (∃ n, J n a w) → ∃ n, J n a w ∧ ∀ k, J k a w → n ≤ k := by
    intro a w ⟨n, hn⟩
    induction n using Nat.strongRecOn with
    | _ n ih =>
      by_cases h : ∃ k, k < n ∧ J k a w
      · obtain ⟨k, hk, hj⟩ := h; exact ih k hk hj
      · exact ⟨n, hn, fun k hk => Nat.le_of_not_lt fun hlt => h ⟨k, hlt, hk⟩⟩
  let μ : Act → World → Nat := fun a w => @dite Nat (∃ n, J n a w) (Classical.propDecidable _) (fun h => Classical.choose (hex a w h)) (fun _ => 0)
  have hμ : ∀ a w n, J n a w → J (μ a w) a w ∧ μ a w ≤ n := by
    intro a w n hn
    have hx : ∃ n, J n a w := ⟨n, hn⟩
    have e : μ a w = Classical.choose (hex a w hx) := dif_pos hx
    have := Classical.choose_spec (hex a w hx)
    rw [e]
    exact ⟨this.1, this.2 n hn⟩
  refine wp_loop (fun a w => ∃ n, J n a w) μ ⟨n, s, g, h0, hs⟩ fun a w ⟨n, hn⟩ => ?_
  obtain ⟨⟨s, g, hI, hs⟩, _⟩ := hμ a w n hn
  cases hm : μ a w with
  | zero => rw [hm] at hI; exact absurd hI (hz s)
  | succ k =>
    rw [hm] at hI
    refine wp_mono (round k s hI g a w hs) fun e a' w' ⟨st', g', h1, h2⟩ => ?_
    cases e with
    | normal =>
      obtain ⟨s', e, hI'⟩ := h1
      subst e
      have := hμ a' w' k ⟨s', g', hI', h2⟩
      exact ⟨⟨k, s', g', hI', h2⟩, by omega⟩
    | _ => exact ⟨st', g', h1, h2⟩

end
end Go.Ide

/-
  A state in other words: chunks under other numbers, what is no longer wanted left out; empty slices as chunks.
-/
namespace Go.Ide

def rnC (ch : List (Nat × Nat)) : ICell → Option ICell
  | .ptr c off => match lk c ch with
    | some c' => some (.ptr c' off)
    | none => none
  | .elp c i sz off => match lk c ch with
    | some c' => some (.elp c' i sz off)
    | none => none
  | .all c => match lk c ch with
    | some c' => some (.all c')
    | none => none
  | .ref c off len => match lk c ch with
    | some c' => some (.ref c' off len)
    | none => none
  | c => some c

def rnCs (ch : List (Nat × Nat)) : List ICell → Option (List ICell)
  | [] => some []
  | c :: r => match rnC ch c, rnCs ch r with
    | some c', some r' => some (c' :: r')
    | _, _ => none

def rnV (ch : List (Nat × Nat)) : IVal → Option IVal
  | .one c => match rnC ch c with
    | some c' => some (.one c')
    | none => none
  | .agg cs => match rnCs ch cs with
    | some cs' => some (.agg cs')
    | none => none
  | .tup _ => none
  | .und => some .und
  | .junk => some .junk

def rnCh (ch : List (Nat × Nat)) : Chunk → Option Chunk
  | .box cs => match rnCs ch cs with
    | some cs' => some (.box cs')
    | none => none
  | .seq t xs => some (.seq t xs)
  | .gone => none

def rnFr (ch : List (Nat × Nat)) (fr : Fr) : List Nat → Option Fr
  | [] => some []
  | t :: r => match lk t fr, rnFr ch fr r with
    | some v, some l => (match rnV ch v with
      | some v' => some ((t, v') :: l)
      | none => none)
    | _, _ => none

def rnMem (ch : List (Nat × Nat)) (m : Mem) : List (Nat × Nat) → Option Mem
  | [] => some []
  | (k, k') :: r => match lk k m, rnMem ch m r with
    | some c, some l => (match rnCh ch c with
      | some c' => some ((k', c') :: l)
      | none => none)
    | _, _ => none

def St.rn (slots : List Nat) (ch : List (Nat × Nat)) (nx : Nat) (own : List Nat) (st : St) : Option St :=
  bif (nodupB (ch.map Prod.fst) && nodupB (ch.map Prod.snd)) && ((ch.all fun p => Nat.blt p.2 nx) && (own.all fun k => lk k ch == some k)) then
    (match rnFr ch st.fr slots, rnMem ch st.mem ch with
    | some fr, some m => some ⟨fr, m, nx⟩
    | _, _ => none) else none

theorem lk_map_snd {ch : List (Nat × Nat)} : ∀ {k k' : Nat}, lk k ch = some k' → k' ∈ ch.map Prod.snd := fun h => List.mem_map.2 ⟨_, lk_mem h, rfl⟩

/-- The other way round. -/
def inv (ch : List (Nat × Nat)) : List (Nat × Nat) := ch.map fun p => (p.2, p.1)

theorem lk_inv : ∀ {ch : List (Nat × Nat)} {k k' : Nat}, (ch.map Prod.fst).Nodup → (ch.map Prod.snd).Nodup → (lk k ch = some k' ↔ lk k' (inv ch) = some k)
  | [], k, k', _, _ => by simp [inv, lk_nil]
  | (a, b) :: ch, k, k', h1, h2 => by
    simp only [List.map_cons, List.nodup_cons] at h1 h2
    simp only [inv, List.map_cons]
    rw [lk_cons, lk_cons]
    have ih := lk_inv (ch := ch) (k := k) (k' := k') h1.2 h2.2
    by_cases hk : k = a
    · subst hk
      rw [if_pos rfl]
      by_cases hk' : k' = b
      · subst hk'; simp
      · rw [if_neg hk']
        constructor
        · intro e; injection e with e; exact absurd e.symm hk'
        · intro e
          have := ih.2 e
          exact absurd (List.mem_map.2 ⟨_, lk_mem this, rfl⟩) h1.1
    · rw [if_neg hk]
      by_cases hk' : k' = b
      · subst hk'
        rw [if_pos rfl]
        constructor
        · intro e
          exact absurd (lk_map_snd e) h2.1
        · intro e; injection e with e; exact absurd e.symm hk
      · rw [if_neg hk']; exact ih

theorem lk_rnFr {ch : List (Nat × Nat)} {fr : Fr} : ∀ {sl : List Nat} {fr' : Fr} {t : Nat} {v' : IVal}, rnFr ch fr sl = some fr' → lk t fr' = some v' → ∃ v, lk t fr = some v ∧ rnV ch v = some v'
  | [], fr', t, v', h, hl => by simp only [rnFr] at h; injection h with h; subst h; simp [lk_nil] at hl
  | s :: sl, fr', t, v', h, hl => by
    simp only [rnFr] at h
    split at h
    · rename_i v l hv hr
      split at h
      · rename_i v1 h1
        injection h with h
        subst h
        rw [lk_cons] at hl
        split at hl
        · rename_i e; subst e; injection hl with hl; subst hl; exact ⟨v, hv, h1⟩
        · exact lk_rnFr hr hl
      · cases h
    · cases h

theorem lk_rnMem {ch : List (Nat × Nat)} {m : Mem} : ∀ {l : List (Nat × Nat)} {m' : Mem} {k' : Nat} {c' : Chunk}, rnMem ch m l = some m' → lk k' m' = some c' → ∃ k c, (k, k') ∈ l ∧ lk k m = some c ∧ rnCh ch c = some c'
  | [], m', k', c', h, hl => by simp only [rnMem] at h; injection h with h; subst h; simp [lk_nil] at hl
  | (k, k1) :: l, m', k', c', h, hl => by
    simp only [rnMem] at h
    split at h
    · rename_i c l' hc hr
      split at h
      · rename_i c1 h1
        injection h with h
        subst h
        rw [lk_cons] at hl
        split at hl
        · rename_i e; subst e; injection hl with hl; subst hl; exact ⟨k, c, by simp, hc, h1⟩
        · obtain ⟨k2, c2, h2, h3, h4⟩ := lk_rnMem hr hl
          exact ⟨k2, c2, by simp [h2], h3, h4⟩
      · cases h
    · cases h

theorem rnMem_has {ch : List (Nat × Nat)} {m : Mem} : ∀ {l : List (Nat × Nat)} {m' : Mem} {k k' : Nat}, rnMem ch m l = some m' → (l.map Prod.snd).Nodup → (k, k') ∈ l → ∃ c c', lk k m = some c ∧ rnCh ch c = some c' ∧ lk k' m' = some c'
  | [], m', k, k', h, _, hm => by simp at hm
  | (q, q') :: l, m', k, k', h, hn, hm => by
    simp only [List.map_cons, List.nodup_cons] at hn
    simp only [rnMem] at h
    split at h
    · rename_i c l' hc hr
      split at h
      · rename_i c1 h1
        injection h with h
        subst h
        rw [lk_cons]
        rcases List.mem_cons.1 hm with e | hm
        · injection e with e1 e2
          subst e1
          subst e2
          exact ⟨c, c1, hc, h1, by rw [if_pos rfl]⟩
        · have hne : k' ≠ q' := fun e => hn.1 (by rw [← e]; exact List.mem_map.2 ⟨_, hm, rfl⟩)
          rw [if_neg hne]
          exact rnMem_has hr hn.2 hm
      · cases h
    · cases h

section
variable {cx : Cx} {g : GM} {st : St} {a : Act} {w : World}

theorem Sim.rn {slots : List Nat} {ch : List (Nat × Nat)} {nx : Nat} {own : List Nat} {st' : St} (h : Sim cx g st a w) (he : st.rn slots ch nx own = some st') (ho : cx.own.map Prod.fst = own) : ∃ g', Sim cx g' st' a w := by
  unfold St.rn at he
  cases hb : ((nodupB (ch.map Prod.fst) && nodupB (ch.map Prod.snd)) && ((ch.all fun p => Nat.blt p.2 nx) && (own.all fun k => lk k ch == some k))) with
  | false => rw [hb] at he; cases he
  | true =>
    rw [hb] at he
    simp only [cond_true] at he
    simp only [Bool.and_eq_true] at hb
    obtain ⟨⟨hn1, hn2⟩, hnx, hown⟩ := hb
    have hn1 := nodupB_spec hn1
    have hn2 := nodupB_spec hn2
    split at he
    · rename_i fr' m' hfr hmem
      injection he with he
      subst he
      let g' : GM := fun k' => (lk k' (inv ch)).bind g
      have hg' : ∀ k k', lk k ch = some k' → g' k' = g k := fun k k' hk => by
        show (lk k' (inv ch)).bind g = g k
        rw [(lk_inv hn1 hn2).1 hk]
        rfl
      have hin : ∀ k k', (k, k') ∈ ch → lk k ch = some k' := by
        intro k k' hm
        have : ∀ l : List (Nat × Nat), (l.map Prod.fst).Nodup → (k, k') ∈ l → lk k l = some k' := by
          intro l
          induction l with
          | nil => intro _ hm; simp at hm
          | cons p l ih =>
            intro hn hm
            obtain ⟨a, b⟩ := p
            simp only [List.map_cons, List.nodup_cons] at hn
            rw [lk_cons]
            rcases List.mem_cons.1 hm with e | hm
            · injection e with e1 e2; subst e1; subst e2; rw [if_pos rfl]
            · rw [if_neg (fun e => hn.1 (by rw [← e]; exact List.mem_map.2 ⟨_, hm, rfl⟩))]
              exact ih hn.2 hm
        exact this ch hn1 hm
      have hlive : ∀ k' c', lk k' m' = some c' → ∃ k c, lk k ch = some k' ∧ lk k st.mem = some c ∧ rnCh ch c = some c' ∧ c ≠ .gone ∧ g' k' = g k := fun k' c' hk => by
        obtain ⟨k, c, h1, h2, h3⟩ := lk_rnMem hmem hk
        have h4 := hin k k' h1
        exact ⟨k, c, h4, h2, h3, (by rintro rfl; cases h3), hg' k k' h4⟩
      have hsafe : ∀ b, cx.safe g st.mem w b → cx.safe g' m' w b := fun b ⟨h1, h2, h3⟩ => by
        refine ⟨h1, h2, ?_⟩
        rintro ⟨k', c', hk, _, hgk⟩
        obtain ⟨k, c, _, q2, _, q4, q5⟩ := hlive k' c' hk
        exact h3 ⟨k, c, q2, q4, by rw [← q5]; exact hgk⟩
      have hhas : ∀ k k', lk k ch = some k' → ∃ c c', lk k st.mem = some c ∧ rnCh ch c = some c' ∧ lk k' m' = some c' := fun k k' hk => rnMem_has hmem hn2 (lk_mem hk)
      have hseq : ∀ k k' t xs, lk k ch = some k' → lk k' m' = some (.seq t xs) → lk k st.mem = some (.seq t xs) := fun k k' t xs hk hl => by
        obtain ⟨c, c', h1, h2, h3⟩ := hhas k k' hk
        rw [hl] at h3
        injection h3 with h3
        subst h3
        cases c with
        | box cs => simp only [rnCh] at h2; split at h2 <;> cases h2
        | seq t' xs' => simp only [rnCh] at h2; injection h2 with h2; rw [h1, h2]
        | gone => cases h2
      have hcr : ∀ c c' v, rnC ch c = some c' → CR g st.mem (cx.safe g st.mem w) w c v → CR g' m' (cx.safe g' m' w) w c' v := by
        intro c c' v hc hr
        cases c with
        | ptr k off =>
          simp only [rnC] at hc
          split at hc
          · rename_i k' hk
            injection hc with hc
            subst hc
            obtain ⟨_, b, h1, h2⟩ := hr
            obtain ⟨_, _, _, _, h3⟩ := hhas k k' hk
            exact ⟨by rw [h3]; simp, b, by rw [hg' k k' hk]; exact h1, h2⟩
          · cases hc
        | elp k i sz off =>
          simp only [rnC] at hc
          split at hc
          · rename_i k' hk
            injection hc with hc
            subst hc
            obtain ⟨_, b, h1, h2⟩ := hr
            obtain ⟨_, _, _, _, h3⟩ := hhas k k' hk
            exact ⟨by rw [h3]; simp, b, by rw [hg' k k' hk]; exact h1, h2⟩
          · cases hc
        | all k =>
          simp only [rnC] at hc
          split at hc
          · rename_i k' hk
            injection hc with hc
            subst hc
            obtain ⟨_, h1, h2⟩ := hr
            obtain ⟨_, _, _, _, h3⟩ := hhas k k' hk
            exact ⟨by rw [h3]; simp, h1, fun t xs hl => by rw [hg' k k' hk]; exact h2 t xs (hseq k k' t xs hk hl)⟩
          · cases hc
        | ref k off len =>
          simp only [rnC] at hc
          split at hc
          · rename_i k' hk
            injection hc with hc
            subst hc
            obtain ⟨_, h1, h2⟩ := hr
            obtain ⟨_, _, _, _, h3⟩ := hhas k k' hk
            exact ⟨by rw [h3]; simp, h1, fun t xs hl => by rw [hg' k k' hk]; exact h2 t xs (hseq k k' t xs hk hl)⟩
          · cases hc
        | dat t x => simp only [rnC] at hc; injection hc with hc; subst hc; exact Rep.keep (fun b hb => ⟨hsafe b hb, rfl⟩) t [v] x hr
        | ip t x off =>
          simp only [rnC] at hc; injection hc with hc; subst hc
          obtain ⟨ad, es, e, hs, hcell, hrep⟩ := hr
          exact ⟨ad, es, e, hsafe _ hs, hcell, Rep.keep (fun b hb => ⟨hsafe b hb, rfl⟩) t es x hrep⟩
        | nilS => simp only [rnC] at hc; injection hc with hc; subst hc; exact hr
        | fn f => simp only [rnC] at hc; injection hc with hc; subst hc; exact hr
        | junk => simp only [rnC] at hc; injection hc with hc; subst hc; exact hr
        | bad => simp only [rnC] at hc; injection hc with hc; subst hc; trivial
      have hcrs : ∀ cs cs' vs, rnCs ch cs = some cs' → All2 (CR g st.mem (cx.safe g st.mem w) w) cs vs → All2 (CR g' m' (cx.safe g' m' w) w) cs' vs := by
        intro cs
        induction cs with
        | nil =>
          intro cs' vs hc hr
          simp only [rnCs] at hc
          injection hc with hc
          subst hc
          cases vs with
          | nil => trivial
          | cons => exact hr.elim
        | cons c cs ih =>
          intro cs' vs hc hr
          simp only [rnCs] at hc
          split at hc
          · rename_i c1 cs1 h1 h2
            injection hc with hc
            subst hc
            cases vs with
            | nil => exact hr.elim
            | cons v vs => exact ⟨hcr c c1 v h1 hr.1, ih cs1 vs h2 hr.2⟩
          · cases hc
      refine ⟨g', h.defers, h.size, fun t v' hl => ?_, fun k' c' hk => ?_, ?_, fun k' c' b hk hn hg => ?_, h.keep, fun p hp => ?_⟩
      · obtain ⟨v, h1, h2⟩ := lk_rnFr hfr hl
        have hv := h.fr t v h1
        cases v with
        | one c =>
          simp only [rnV] at h2
          split at h2
          · rename_i c' hc; injection h2 with h2; subst h2; exact hcr c c' _ hc hv
          · cases h2
        | agg cs =>
          simp only [rnV] at h2
          split at h2
          · rename_i cs' hc
            injection h2 with h2; subst h2
            obtain ⟨vs, e, hvs⟩ := hv
            exact ⟨vs, e, hcrs cs cs' vs hc hvs⟩
          · cases h2
        | tup ts => simp [rnV] at h2
        | und => simp only [rnV] at h2; injection h2 with h2; subst h2; exact hv
        | junk => simp only [rnV] at h2; injection h2 with h2; subst h2; trivial
      · obtain ⟨k, c, q1, q2, q3, q4, q5⟩ := hlive k' c' hk
        have hch := h.mem k c q2
        rw [q5]
        cases c with
        | gone => exact absurd rfl q4
        | box cs =>
          simp only [rnCh] at q3
          split at q3
          · rename_i cs' hcs
            injection q3 with q3
            subst q3
            obtain ⟨b, arr, e, hb, hall⟩ := hch
            exact ⟨b, arr, e, hb, hcrs cs cs' _ hcs hall⟩
          · cases q3
        | seq t xs =>
          simp only [rnCh] at q3
          injection q3 with q3
          subst q3
          cases hgk : g k with
          | none => rw [hgk] at hch; exact hch
          | some b =>
            rw [hgk] at hch
            obtain ⟨arr, hb, hel⟩ := hch
            exact ⟨arr, hb, hel.keep fun b hb => ⟨hsafe b hb, rfl⟩⟩
      · intro k1 k2 c1 c2 b hk1 hn1' hk2 hn2' hg1 hg2
        obtain ⟨q, d, a1, a2, a3, a4, a5⟩ := hlive k1 c1 hk1
        obtain ⟨q', d', b1, b2, b3, b4, b5⟩ := hlive k2 c2 hk2
        have := h.inj q q' d d' b a2 a4 b2 b4 (by rw [← a5]; exact hg1) (by rw [← b5]; exact hg2)
        subst this
        rw [a1] at b1
        injection b1
      · obtain ⟨q, d, a1, a2, a3, a4, a5⟩ := hlive k' c' hk
        exact h.base q d b a2 a4 (by rw [← a5]; exact hg)
      · have hmem' : p.1 ∈ own := by rw [← ho]; exact List.mem_map.2 ⟨p, hp, rfl⟩
        have := List.all_eq_true.1 hown _ hmem'
        have hlk : lk p.1 ch = some p.1 := by simpa using this
        refine ⟨by rw [hg' _ _ hlk]; exact (h.own p hp).1, ?_⟩
        obtain ⟨_, _, _, _, h3⟩ := hhas _ _ hlk
        rw [h3]; simp
    · cases he

theorem HT.rn {Q : Exit → St → Prop} {c : Code} {slots : List Nat} {ch : List (Nat × Nat)} {nx : Nat} {own : List Nat} {st' : St} (ho : cx.own.map Prod.fst = own) (he : st.rn slots ch nx own = some st') (h : HT cx st' c Q) : HT cx st c Q :=
  fun _ a w hs => let ⟨g', hs'⟩ := hs.rn he ho; h g' a w hs'

end
end Go.Ide

/-
  A function: from its body's run to its contract.
-/
namespace Go.Ide

def toIV (t : Ty) (cs : List ICell) : IVal := if t.isSt then .agg cs else (match cs with | [c] => .one c | _ => .junk)

def argSt : List Arg → Nat → Nat → Fr × List Chunk
  | [], _, _ => ([], [])
  | .imm t x :: r, i, n => ((i, toIV t (expl t x)) :: (argSt r (i + 1) n).1, (argSt r (i + 1) n).2)
  | .pimm t x :: r, i, n => ((i, .one (.ip t x 0)) :: (argSt r (i + 1) n).1, (argSt r (i + 1) n).2)
  | .fn f :: r, i, n => ((i, .one (.fn f)) :: (argSt r (i + 1) n).1, (argSt r (i + 1) n).2)
  | .nl :: r, i, n => ((i, .one .nilS) :: (argSt r (i + 1) n).1, (argSt r (i + 1) n).2)
  | .mv t x :: r, i, n =>
    ((i, toIV t (explF t x n).1) :: (argSt r (i + 1) (n + (explF t x n).2.length)).1, (explF t x n).2 ++ (argSt r (i + 1) (n + (explF t x n).2.length)).2)
  | .own t x :: r, i, n =>
    ((i, toIV t (explF t x n).1) :: (argSt r (i + 1) (n + (explF t x n).2.length)).1, (explF t x n).2 ++ (argSt r (i + 1) (n + (explF t x n).2.length)).2)

def memK (j : Nat) : List Nat → Bool
  | [] => false
  | a :: l => Nat.beq j a || memK j l

theorem memK_iff {j : Nat} : ∀ {l : List Nat}, memK j l = true ↔ j ∈ l
  | [] => by simp [memK]
  | a :: l => by simp [memK, memK_iff (l := l)]

/-- The keys of what is handed back. -/
def ownKs : List Arg → Nat → List Nat
  | [], _ => []
  | .own t x :: r, n => List.range' n (explF t x n).2.length ++ ownKs r (n + (explF t x n).2.length)
  | .mv t x :: r, n => ownKs r (n + (explF t x n).2.length)
  | .imm _ _ :: r, n => ownKs r n
  | .pimm _ _ :: r, n => ownKs r n
  | .fn _ :: r, n => ownKs r n
  | .nl :: r, n => ownKs r n

/-- The state in which a function's body begins. -/
def st0 (args : List Arg) : St := ⟨(argSt args 0 0).1, keysFrom 0 (argSt args 0 0).2, (argSt args 0 0).2.length⟩

def resI (P : Program) (m : Mem) (fr : Fr) : List ResultVar → Option (List IVal)
  | [] => some []
  | .tmp t :: r => match lk t fr, resI P m fr r with
    | some v, some l => some (v :: l)
    | _, _ => none
  | .cell t T :: r => match lk t fr, resI P m fr r with
    | some (.one (.ptr c off)), some l => (match iLoad P m T (.one (.ptr c off)) with
      | some e => some (e.val :: l)
      | none => none)
    | _, _ => none

/-- Results as data. -/
def retI (m : Mem) : List (Bool × Ty) → List IVal → Option (List RV × List Nat)
  | [], [] => some ([], [])
  | (fresh, t) :: ts, v :: vs => match retI m ts vs with
    | some (rs, ks) => if fresh then (match vdat m t v, ownKeys m t v.cells with
        | some x, some (k, []) => some (⟨true, t, x⟩ :: rs, k ++ ks)
        | _, _ => none) else (match vdat [] t v with
        | some x => some (⟨false, t, x⟩ :: rs, ks)
        | none => none)
    | none => none
  | _, _ => none

/-- What an argument of the call's own holds at the end. -/
def ownOut (m : Mem) : (t : Ty) → t.D → Nat → Option (t.D × Nat × List Prop)
  | .pair a b, x, n => match ownOut m a x.1 n with
    | some (y, n1, c1) => (match ownOut m b x.2 n1 with
      | some (z, n2, c2) => some ((y, z), n2, c1 ++ c2)
      | none => none)
    | none => none
  | .st t, x, n => ownOut m t x n
  | .sl t, xs, n => match lk n m with
    | some (.seq t' ys) => if h : t' = t then some (castD (congrArg Ty.sl h) ys, n + 1, [List.length ys = List.length xs]) else none
    | _ => none
  | .int _, x, n => some (x, n, [])
  | .flt _, x, n => some (x, n, [])
  | .bool, x, n => some (x, n, [])
  | .str, x, n => some (x, n, [])

def ownOuts (m : Mem) : List Arg → Nat → Option (List TD × List Prop)
  | [], _ => some ([], [])
  | .own t x :: r, n => match ownOut m t x n with
    | some (y, n1, c1) => (match ownOuts m r n1 with
      | some (l, c2) => some (⟨t, y⟩ :: l, c1 ++ c2)
      | none => none)
    | none => none
  | .mv t x :: r, n => ownOuts m r (n + (explF t x n).2.length)
  | .imm _ _ :: r, n => ownOuts m r n
  | .pimm _ _ :: r, n => ownOuts m r n
  | .fn _ :: r, n => ownOuts m r n
  | .nl :: r, n => ownOuts m r n

/-- The end of a function. -/
def RetOK (P : Program) (fn : Func) (args : List Arg) (ts : List (Bool × Ty)) (rs : List RV) (outs : List TD) (st : St) : Prop :=
  ∃ vs ks cs, resI P st.mem st.fr fn.results.toList = some vs ∧ retI st.mem ts vs = some (rs, ks) ∧ nodupB ks = true ∧ ks.all (fun k => !(memK k (ownKs args 0))) = true ∧ ownOuts st.mem args 0 = some (outs, cs) ∧ AllP cs

def retQ (P : Program) (fn : Func) (args : List Arg) (ts : List (Bool × Ty)) (rs : List RV) (outs : List TD) : Exit → St → Prop
  | .normal, st => RetOK P fn args ts rs outs st
  | .ret, st => RetOK P fn args ts rs outs st
  | _, _ => False

section
variable {S : Nat → Prop} {w : World}

theorem toIV_VR {g : GM} {m : Mem} {t : Ty} {cs : List Value} {ics : List ICell} {v : Value} (h : ValOf t cs v) (ha : All2 (CR g m S w) ics cs) : VR g m S w (toIV t ics) v := by
  unfold ValOf at h
  unfold toIV
  split
  · rename_i hst
    rw [if_pos hst] at h
    exact ⟨cs, h, ha⟩
  · rename_i hst
    rw [if_neg hst] at h
    subst h
    cases ics with
    | nil => exact ha.elim
    | cons c r =>
      cases r with
      | nil => exact ha.1
      | cons => exact ha.2.elim

/-- Where the arguments of the call's own lie. -/
def ArgsA (S : Nat → Prop) (w : World) : List Arg → List Value → List (List Nat) → List (Option Nat) → Prop
  | [], [], [], A => A = []
  | .own t x :: as, v :: vs, F :: Fs, A => ∃ A1 A2 cs, A = A1 ++ A2 ∧ ValOf t cs v ∧ OwnA S w t cs x A1 ∧ A1.filterMap id = F ∧ ArgsA S w as vs Fs A2
  | .mv t x :: as, v :: vs, F :: Fs, A => ∃ A1 A2 cs, A = A1 ++ A2 ∧ ValOf t cs v ∧ OwnA S w t cs x A1 ∧ A1.filterMap id = F ∧ ArgsA S w as vs Fs A2
  | .nl :: as, _ :: vs, _ :: Fs, A => ArgsA S w as vs Fs A
  | .imm _ _ :: as, _ :: vs, _ :: Fs, A => ArgsA S w as vs Fs A
  | .pimm _ _ :: as, _ :: vs, _ :: Fs, A => ArgsA S w as vs Fs A
  | .fn _ :: as, _ :: vs, _ :: Fs, A => ArgsA S w as vs Fs A
  | _, _, _, _ => False

theorem argSt_rel {S2 : Nat → Prop} (hS : ∀ b, S b → S2 b) : ∀ {args : List Arg} {vals : List Value} {Fs : List (List Nat)} (i n : Nat), ArgsR S w args vals Fs → ∃ asg : List (Option Nat), asg.length = (argSt args i n).2.length ∧ asg.filterMap id = Fs.flatten ∧ ArgsA S2 w args vals Fs asg ∧
    ∀ (g' : GM) (m' : Mem), (∀ j ch, (argSt args i n).2[j]? = some ch → lk (n + j) m' = some ch) → (∀ j o, asg[j]? = some o → g' (n + j) = o) →
      (∀ t v, lk t (argSt args i n).1 = some v → i ≤ t ∧ ∃ u, vals[t - i]? = some u ∧ VR g' m' S2 w v u) ∧ Laid g' m' S2 w n (argSt args i n).2 asg Fs.flatten
  | [], [], [], i, n, _ => ⟨[], rfl, rfl, rfl, fun g' m' _ _ => ⟨fun t v h => by simp [argSt, lk_nil] at h, rfl, rfl, fun j ch hj => by simp [argSt] at hj⟩⟩
  | arg :: args, v :: vals, F :: Fs, i, n, ⟨h1, h2⟩ => by
    -- an argument that brings no chunk
    have plain : ∀ (iv : IVal), F = [] → argSt (arg :: args) i n = ((i, iv) :: (argSt args (i + 1) n).1, (argSt args (i + 1) n).2) → (∀ (g' : GM) (m' : Mem), VR g' m' S2 w iv v) → (∀ A, ArgsA S2 w args vals Fs A → ArgsA S2 w (arg :: args) (v :: vals) (F :: Fs) A) →
        ∃ asg : List (Option Nat), asg.length = (argSt (arg :: args) i n).2.length ∧ asg.filterMap id = (F :: Fs).flatten ∧ ArgsA S2 w (arg :: args) (v :: vals) (F :: Fs) asg ∧
        ∀ (g' : GM) (m' : Mem), (∀ j ch, (argSt (arg :: args) i n).2[j]? = some ch → lk (n + j) m' = some ch) → (∀ j o, asg[j]? = some o → g' (n + j) = o) →
          (∀ t u, lk t (argSt (arg :: args) i n).1 = some u → i ≤ t ∧ ∃ x, (v :: vals)[t - i]? = some x ∧ VR g' m' S2 w u x) ∧ Laid g' m' S2 w n (argSt (arg :: args) i n).2 asg (F :: Fs).flatten := by
      intro iv hF he hv hA
      obtain ⟨asg, k1, k2, kA, k3⟩ := argSt_rel hS (i + 1) n h2
      refine ⟨asg, by rw [he]; exact k1, by rw [hF]; simpa using k2, hA asg kA, fun g' m' hm hg => ?_⟩
      rw [he] at hm ⊢
      obtain ⟨q1, q2⟩ := k3 g' m' hm hg
      refine ⟨fun t u hl => ?_, by rw [hF]; simpa using q2⟩
      simp only at hl
      rw [lk_cons] at hl
      split at hl
      · rename_i e
        subst e
        injection hl with hl
        subst hl
        exact ⟨Nat.le_refl _, v, by simp, hv g' m'⟩
      · obtain ⟨a1, x, a2, a3⟩ := q1 t u hl
        refine ⟨by omega, x, ?_, a3⟩
        rw [show t - i = (t - (i + 1)) + 1 from by omega]
        simpa using a2
    cases arg with
    | imm t x =>
      obtain ⟨hF, cs, hv, hr⟩ := h1
      exact plain _ hF rfl (fun g' m' => toIV_VR hv (expl_rel t (Rep.keep (fun b hb => ⟨hS b hb, rfl⟩) t cs x hr))) fun _ h => h
    | pimm t x =>
      obtain ⟨hF, ad, es, e, hs, hcell, hr⟩ := h1
      exact plain _ hF rfl (fun g' m' => ⟨ad, es, by rw [e]; simp [Addr.add], hS _ hs, hcell, Rep.keep (fun b hb => ⟨hS b hb, rfl⟩) t es x hr⟩) fun _ h => h
    | fn f =>
      obtain ⟨hF, e⟩ := h1
      exact plain _ hF rfl (fun g' m' => e) fun _ h => h
    | nl =>
      obtain ⟨hF, e⟩ := h1
      exact plain _ hF rfl (fun g' m' => e) fun _ h => h
    | own t x =>
      obtain ⟨cs, hv, ho⟩ := h1
      have ho := OwnRep.mono hS t ho
      obtain ⟨a1, l1, b1, w1, k1⟩ := explF_rel t n ho
      obtain ⟨a2, l2, b2, w2, k2⟩ := argSt_rel hS (i + 1) (n + (explF t x n).2.length) h2
      refine ⟨a1 ++ a2, by simp [argSt, l1, l2], by simp [List.filterMap_append, b1, b2], ⟨a1, a2, cs, rfl, hv, w1, b1, w2⟩, fun g' m' hm hg => ?_⟩
      obtain ⟨p1, q1⟩ := k1 g' m' (fun j ch hj => hm j ch (by
          simp only [argSt]
          rw [List.getElem?_append_left (List.getElem?_eq_some_iff.1 hj).1]; exact hj)) (fun j o hj => hg j o (by
          rw [List.getElem?_append_left (List.getElem?_eq_some_iff.1 hj).1]; exact hj))
      obtain ⟨p2, q2⟩ := k2 g' m' (fun j ch hj => by
          rw [Nat.add_assoc]
          refine hm _ ch ?_
          simp only [argSt]
          rw [List.getElem?_append_right (by omega)]
          simpa using hj) (fun j o hj => by
          rw [Nat.add_assoc]
          refine hg _ o ?_
          rw [List.getElem?_append_right (by omega), l1]
          simpa using hj)
      refine ⟨fun t' u hl => ?_, by simpa [argSt] using q1.app q2⟩
      simp only [argSt] at hl
      rw [lk_cons] at hl
      split at hl
      · rename_i e
        subst e
        injection hl with hl
        subst hl
        exact ⟨Nat.le_refl _, v, by simp, toIV_VR hv p1⟩
      · obtain ⟨a1, x, a2, a3⟩ := p2 t' u hl
        refine ⟨by omega, x, ?_, a3⟩
        rw [show t' - i = (t' - (i + 1)) + 1 from by omega]
        simpa using a2
    | mv t x =>
      obtain ⟨cs, hv, ho⟩ := h1
      have ho := OwnRep.mono hS t ho
      obtain ⟨a1, l1, b1, w1, k1⟩ := explF_rel t n ho
      obtain ⟨a2, l2, b2, w2, k2⟩ := argSt_rel hS (i + 1) (n + (explF t x n).2.length) h2
      refine ⟨a1 ++ a2, by simp [argSt, l1, l2], by simp [List.filterMap_append, b1, b2], ⟨a1, a2, cs, rfl, hv, w1, b1, w2⟩, fun g' m' hm hg => ?_⟩
      obtain ⟨p1, q1⟩ := k1 g' m' (fun j ch hj => hm j ch (by
          simp only [argSt]
          rw [List.getElem?_append_left (List.getElem?_eq_some_iff.1 hj).1]; exact hj)) (fun j o hj => hg j o (by
          rw [List.getElem?_append_left (List.getElem?_eq_some_iff.1 hj).1]; exact hj))
      obtain ⟨p2, q2⟩ := k2 g' m' (fun j ch hj => by
          rw [Nat.add_assoc]
          refine hm _ ch ?_
          simp only [argSt]
          rw [List.getElem?_append_right (by omega)]
          simpa using hj) (fun j o hj => by
          rw [Nat.add_assoc]
          refine hg _ o ?_
          rw [List.getElem?_append_right (by omega), l1]
          simpa using hj)
      refine ⟨fun t' u hl => ?_, by simpa [argSt] using q1.app q2⟩
      simp only [argSt] at hl
      rw [lk_cons] at hl
      split at hl
      · rename_i e
        subst e
        injection hl with hl
        subst hl
        exact ⟨Nat.le_refl _, v, by simp, toIV_VR hv p1⟩
      · obtain ⟨a1, x, a2, a3⟩ := p2 t' u hl
        refine ⟨by omega, x, ?_, a3⟩
        rw [show t' - i = (t' - (i + 1)) + 1 from by omega]
        simpa using a2
  | [], [], _ :: _, _, _, h => h.elim
  | [], _ :: _, _, _, _, h => h.elim
  | _ :: _, [], _, _, _, h => h.elim
  | _ :: _, _ :: _, [], _, _, h => h.elim

end

section
variable {cx : Cx} {g : GM} {st : St} {a : Act} {w : World}

def resS (tmps : Array Value) : ResultVar → Sem Value
  | .tmp t => pure (tmps.getD t undef)
  | .cell x t => do loadVar t (← asAddr (tmps.getD x undef))

theorem resI_run (h : Sim cx g st a w) : ∀ {rl : List ResultVar} {vs : List IVal}, resI cx.P st.mem st.fr rl = some vs →
    ∃ vals : List Value, (rl.mapM (resS a.tmps)).run cx.P w = .ok vals w ∧ All2 (VR g st.mem (cx.safe g st.mem w) w) vs vals
  | [], vs, he => by simp only [resI] at he; injection he with he; subst he; exact ⟨[], rfl, trivial⟩
  | .tmp t :: rl, vs, he => by
    simp only [resI] at he
    split at he
    · rename_i v l hv hl
      injection he with he
      subst he
      obtain ⟨vals, h1, h2⟩ := resI_run h hl
      exact ⟨a.tmps.getD t undef :: vals, by simp [List.mapM_cons, resS, h1], h.fr t v hv, h2⟩
    · cases he
  | .cell t T :: rl, vs, he => by
    simp only [resI] at he
    split at he
    · rename_i c off l hv hl
      split at he
      · rename_i e hld
        injection he with he
        subst he
        obtain ⟨vals, h1, h2⟩ := resI_run h hl
        have hv' := h.fr t _ hv
        have hcond : e.cond = [] := by
          unfold iLoad at hld
          split at hld
          · rename_i e1 _ _; cases e1
          · split at hld
            · split at hld
              · unfold pureE at hld; injection hld with hld; rw [← hld]
              · cases hld
            · cases hld
          · cases hld
        obtain ⟨_, _, r, h3, h4⟩ := iLoad_sound h.mem hld (by rw [hcond]; trivial) hv'
        obtain ⟨_, b, _, e1⟩ := hv'
        rw [e1] at h3
        simp only [Instr.loadAt, Instr.sureAddr, Sem.run_bind, Sem.run_pure, Result.andThen_ok] at h3
        exact ⟨r :: vals, by simp [List.mapM_cons, resS, e1, asAddr, h3, h1], h4, h2⟩
      · cases he
    · cases he

theorem vdat_own (hm : ChAll g st.mem (cx.safe g st.mem w) w) {t : Ty} {v : IVal} {x : t.D} {ks : List Nat} {u : Value} (hx : vdat st.mem t v = some x) (hk : ownKeys st.mem t v.cells = some (ks, [])) (hv : VR g st.mem (cx.safe g st.mem w) w v u) :
    ∃ cs, ∃ l : List (Nat × Nat), ValOf t cs u ∧ OwnRep (cx.safe g st.mem w) w t cs x (l.map Prod.snd) ∧ (l.map Prod.fst).Sublist ks ∧ ∀ p ∈ l, g p.1 = some p.2 ∧ ∃ t xs, lk p.1 st.mem = some (.seq t xs) := by
  have hcells : ∃ vcs, ValOf t vcs u ∧ All2 (CR g st.mem (cx.safe g st.mem w) w) v.cells vcs ∧ impl st.mem t v.cells = some (x, []) := by
    unfold vdat at hx
    split at hx
    · rename_i c hst
      split at hx
      · rename_i y hy
        injection hx with hx
        subst hx
        exact ⟨[u], by simp [ValOf, hst], ⟨hv, trivial⟩, hy⟩
      · cases hx
    · rename_i cs hst
      split at hx
      · rename_i y hy
        injection hx with hx
        subst hx
        obtain ⟨vs', e, hvs⟩ := hv
        exact ⟨vs', by simp [ValOf, hst, e], hvs, hy⟩
      · cases hx
    · cases hx
  obtain ⟨vcs, hval, hall, himp⟩ := hcells
  obtain ⟨v1, v2, l1, e1, o1, a1, q1, s1, p1⟩ := own_rel hm (fun _ h => h) t himp hk hall
  have : v2 = [] := by cases v2 with | nil => rfl | cons => exact a1.elim
  subst this
  rw [List.append_nil] at e1
  subst e1
  exact ⟨vcs, l1, hval, o1, s1, p1⟩

theorem retI_rel (h : Sim cx g st a w) : ∀ {ts : List (Bool × Ty)} {vs : List IVal} {vals : List Value} {rs : List RV} {ks : List Nat}, retI st.mem ts vs = some (rs, ks) → All2 (VR g st.mem (cx.safe g st.mem w) w) vs vals →
    ∃ l : List (Nat × Nat), RVsR (cx.safe g st.mem w) w rs vals (l.map Prod.snd) ∧ (l.map Prod.fst).Sublist ks ∧ ∀ p ∈ l, g p.1 = some p.2 ∧ ∃ t xs, lk p.1 st.mem = some (.seq t xs)
  | [], [], vals, rs, ks, he, hv => by
    simp only [retI] at he
    injection he with he
    injection he with e1 e2
    subst e1
    subst e2
    cases vals with
    | nil => exact ⟨[], rfl, by simp, by simp⟩
    | cons => exact hv.elim
  | (fresh, t) :: ts, v :: vs, [], rs, ks, he, hv => hv.elim
  | (fresh, t) :: ts, v :: vs, u :: vals, rs, ks, he, hv => by
    simp only [retI] at he
    split at he
    · rename_i rs1 ks1 h1
      obtain ⟨l, k1, k2, k3⟩ := retI_rel h h1 hv.2
      split at he
      · rename_i hf
        split at he
        · rename_i x k hx hk
          injection he with he
          injection he with e1 e2
          subst e1
          subst e2
          obtain ⟨cs, l1, q1, q2, q3, q4⟩ := vdat_own h.mem hx hk hv.1
          refine ⟨l1 ++ l, ⟨l1.map Prod.snd, l.map Prod.snd, by simp, ?_, k1⟩, by simpa using q3.append k2, fun p hp => ?_⟩
          · unfold RVR; rw [if_pos rfl]; exact ⟨cs, q1, q2⟩
          · rcases List.mem_append.1 hp with hp | hp
            · exact q4 p hp
            · exact k3 p hp
        · cases he
      · rename_i hf
        split at he
        · rename_i x hx
          injection he with he
          injection he with e1 e2
          subst e1
          subst e2
          obtain ⟨cs, q1, q2⟩ := vdat_rep (S2 := cx.safe g st.mem w) (fun _ h => h) ReadM.nil hx hv.1
          refine ⟨l, ⟨[], _, by simp, ?_, k1⟩, k2, k3⟩
          unfold RVR
          rw [if_neg (by simp)]
          exact ⟨rfl, cs, q1, q2⟩
        · cases he
    · cases he
  | [], _ :: _, _, _, _, he, _ => by simp [retI] at he
  | _ :: _, [], _, _, _, he, _ => by cases he

end

theorem OwnA.len {S : Nat → Prop} {w : World} : ∀ (t : Ty) {cs : List Value} {x : t.D} {A : List (Option Nat)} (n : Nat), OwnA S w t cs x A → A.length = (explF t x n).2.length
  | .int _, _, _, _, _, ⟨e, _⟩ => by subst e; rfl
  | .flt _, _, _, _, _, ⟨e, _⟩ => by subst e; rfl
  | .bool, _, _, _, _, ⟨e, _⟩ => by subst e; rfl
  | .str, _, _, _, _, ⟨e, _⟩ => by subst e; rfl
  | .pair a b, _, x, _, n, ⟨c1, c2, A1, A2, _, e, h1, h2⟩ => by
    subst e
    simp only [explF, List.length_append]
    rw [OwnA.len a n h1, OwnA.len b (n + (explF a x.1 n).2.length) h2]
  | .st t, cs, x, A, n, h => OwnA.len t (cs := cs) (x := x) n h
  | .sl t, _, _, _, _, h => by
    rcases h with ⟨e, _⟩ | ⟨b, cap, arr, e, _⟩ <;> subst e <;> rfl

/-- What has become of an own argument. -/
theorem ownOut_rel {S S' : Nat → Prop} {w0 w : World} {g : GM} {m : Mem} (hm : ChAll g m S' w) (hk : ∀ b arr, blk w0 b arr → ∃ arr', blk w b arr' ∧ arr'.size = arr.size) : ∀ (t : Ty) {cs : List Value} {x y : t.D} {A : List (Option Nat)} {n n' : Nat} {cd : List Prop},
    OwnA S w0 t cs x A → ownOut m t x n = some (y, n', cd) → AllP cd → (∀ j o, A[j]? = some o → g (n + j) = o) → n' = n + A.length ∧ OwnA S' w t cs y A
  | .int k, cs, x, y, A, n, n', cd, ⟨hF, hr⟩, h, hc, h3 => by simp only [ownOut] at h; injection h with h; injection h with e1 h; injection h with e2 e3; subst e1; subst e2; subst hF; exact ⟨rfl, rfl, hr⟩
  | .flt k, cs, x, y, A, n, n', cd, ⟨hF, hr⟩, h, hc, h3 => by simp only [ownOut] at h; injection h with h; injection h with e1 h; injection h with e2 e3; subst e1; subst e2; subst hF; exact ⟨rfl, rfl, hr⟩
  | .bool, cs, x, y, A, n, n', cd, ⟨hF, hr⟩, h, hc, h3 => by simp only [ownOut] at h; injection h with h; injection h with e1 h; injection h with e2 e3; subst e1; subst e2; subst hF; exact ⟨rfl, rfl, hr⟩
  | .str, cs, x, y, A, n, n', cd, ⟨hF, hr⟩, h, hc, h3 => by simp only [ownOut] at h; injection h with h; injection h with e1 h; injection h with e2 e3; subst e1; subst e2; subst hF; exact ⟨rfl, rfl, hr⟩
  | .st t, cs, x, y, A, n, n', cd, ho, h, hc, h3 => ownOut_rel hm hk t (cs := cs) (x := x) (y := y) ho h hc h3
  | .pair a b, cs, x, y, A, n, n', cd, ⟨c1, c2, A1, A2, e1, e2, o1, o2⟩, h, hc, h3 => by
    subst e2
    simp only [ownOut] at h
    split at h
    · rename_i y1 n1 cd1 hy1
      split at h
      · rename_i y2 n2 cd2 hy2
        injection h with h
        injection h with k1 h
        injection h with k2 k3
        subst k1
        subst k2
        subst k3
        obtain ⟨hc1, hc2⟩ := hc.append
        obtain ⟨r1, r2⟩ := ownOut_rel hm hk a o1 hy1 hc1 (fun j o hj => h3 j o (by rw [List.getElem?_append_left (List.getElem?_eq_some_iff.1 hj).1]; exact hj))
        subst r1
        obtain ⟨r3, r4⟩ := ownOut_rel hm hk b o2 hy2 hc2 (fun j o hj => by
          rw [Nat.add_assoc]
          refine h3 _ o ?_
          rw [List.getElem?_append_right (by omega)]
          simpa using hj)
        exact ⟨by rw [r3, List.length_append]; omega, c1, c2, A1, A2, e1, rfl, r2, r4⟩
      · cases h
    · cases h
  | .sl t, cs, xs, y, A, n, n', cd, ho, h, hc, h3 => by
    simp only [ownOut] at h
    split at h
    · rename_i t' ys hl
      split at h
      · rename_i he
        subst he
        injection h with h
        injection h with k1 h
        injection h with k2 k3
        subst k1
        subst k2
        subst k3
        have hlen : List.length ys = List.length xs := hc.1
        have hch := hm n _ hl
        rcases ho with ⟨hF, hx, a, e⟩ | ⟨b, cap, arr, hF, e, q1, q2, q3, q4, q5, q6⟩
        · subst hF
          refine ⟨rfl, .inl ⟨rfl, ?_, a, e⟩⟩
          rw [hx] at hlen
          exact List.eq_nil_of_length_eq_zero hlen
        · subst hF
          have hg := h3 0 (some b) rfl
          rw [Nat.add_zero] at hg
          rw [hg] at hch
          obtain ⟨arr', r1, r2⟩ := hch
          obtain ⟨arr2, s1, s2⟩ := hk b arr q3
          have := s1.eq r1
          subst this
          refine ⟨rfl, .inr ⟨b, cap, arr2, rfl, ?_, ?_, q2, r1, by rw [s2]; exact q4, q5, r2⟩⟩
          · show cs = [.slice (some ⟨b, 0, none⟩) ys.length cap]
            rw [hlen]; exact e
          · show ys.length ≤ cap
            rw [hlen]; exact q1
      · cases h
    · cases h

theorem ownOuts_rel {S S' : Nat → Prop} {w0 w : World} {g : GM} {m : Mem} (hm : ChAll g m S' w) (hk : ∀ b arr, blk w0 b arr → ∃ arr', blk w b arr' ∧ arr'.size = arr.size) : ∀ {args : List Arg} {vals : List Value} {Fs : List (List Nat)} {A : List (Option Nat)} {n : Nat} {outs : List TD} {cd : List Prop},
    ArgsA S w0 args vals Fs A → ownOuts m args n = some (outs, cd) → AllP cd → (∀ j o, A[j]? = some o → n + j ∈ ownKs args n → g (n + j) = o) → OutsR S' w args vals Fs outs
  | [], [], [], A, n, outs, cd, _, h, _, _ => by
    simp only [ownOuts] at h; injection h with h; injection h with e1 e2; subst e1; trivial
  | .imm t x :: as, v :: vs, F :: Fs, A, n, outs, cd, ha, h, hc, h3 => ownOuts_rel hm hk (args := as) (vals := vs) (Fs := Fs) ha h hc h3
  | .pimm t x :: as, v :: vs, F :: Fs, A, n, outs, cd, ha, h, hc, h3 => ownOuts_rel hm hk (args := as) (vals := vs) (Fs := Fs) ha h hc h3
  | .fn f :: as, v :: vs, F :: Fs, A, n, outs, cd, ha, h, hc, h3 => ownOuts_rel hm hk (args := as) (vals := vs) (Fs := Fs) ha h hc h3
  | .nl :: as, v :: vs, F :: Fs, A, n, outs, cd, ha, h, hc, h3 => ownOuts_rel hm hk (args := as) (vals := vs) (Fs := Fs) ha h hc h3
  | .mv t x :: as, v :: vs, F :: Fs, A, n, outs, cd, ⟨A1, A2, cs, e1, hv, ho, hF, ha⟩, h, hc, h3 => by
    subst e1
    have hl := OwnA.len t n ho
    refine ownOuts_rel hm hk (args := as) (vals := vs) (Fs := Fs) (n := n + (explF t x n).2.length) ha h hc fun j o hj hmem => ?_
    rw [Nat.add_assoc] at hmem ⊢
    refine h3 _ o ?_ hmem
    rw [List.getElem?_append_right (by omega), hl]
    simpa using hj
  | .own t x :: as, v :: vs, F :: Fs, A, n, outs, cd, ⟨A1, A2, cs, e1, hv, ho, hF, ha⟩, h, hc, h3 => by
    subst e1
    simp only [ownOuts] at h
    split at h
    · rename_i y n1 c1 hy
      split at h
      · rename_i l c2 hl
        injection h with h
        injection h with k1 k2
        subst k1
        subst k2
        obtain ⟨hc1, hc2⟩ := hc.append
        have hlen := OwnA.len t n ho
        obtain ⟨r1, r2⟩ := ownOut_rel hm hk t ho hy hc1 (fun j o hj => h3 j o (by rw [List.getElem?_append_left (List.getElem?_eq_some_iff.1 hj).1]; exact hj) (by
          have := (List.getElem?_eq_some_iff.1 hj).1
          simp only [ownKs, List.mem_append, List.mem_range'_1]
          left
          omega))
        subst r1
        have := ownOuts_rel hm hk ha hl hc2 (fun j o hj hmem => by
          rw [Nat.add_assoc] at hmem ⊢
          refine h3 _ o ?_ ?_
          · rw [List.getElem?_append_right (by omega)]
            simpa using hj
          · simp only [ownKs, List.mem_append]
            right
            rw [← hlen]
            exact hmem)
        exact ⟨⟨rfl, cs, hv, by rw [← hF]; exact OwnA.toRep t r2⟩, this⟩
      · cases h
    · cases h

/-- Blocks of arguments are handed back, or were given away. -/
theorem own_or_mv {S : Nat → Prop} {w : World} : ∀ {args : List Arg} {vals : List Value} {Fs : List (List Nat)} {A : List (Option Nat)} (n : Nat), ArgsA S w args vals Fs A → ∀ j b, A[j]? = some (some b) → n + j ∈ ownKs args n ∨ b ∈ MvF args Fs
  | [], [], [], A, n, h, j, b, hj => by have h : A = [] := h; subst h; simp at hj
  | .imm _ _ :: as, _ :: vs, _ :: Fs, A, n, h, j, b, hj => own_or_mv (args := as) (vals := vs) (Fs := Fs) n h j b hj
  | .pimm _ _ :: as, _ :: vs, _ :: Fs, A, n, h, j, b, hj => own_or_mv (args := as) (vals := vs) (Fs := Fs) n h j b hj
  | .fn _ :: as, _ :: vs, _ :: Fs, A, n, h, j, b, hj => own_or_mv (args := as) (vals := vs) (Fs := Fs) n h j b hj
  | .nl :: as, _ :: vs, _ :: Fs, A, n, h, j, b, hj => own_or_mv (args := as) (vals := vs) (Fs := Fs) n h j b hj
  | .mv t x :: as, v :: vs, F :: Fs, A, n, ⟨A1, A2, cs, e1, hv, ho, hF, ha⟩, j, b, hj => by
    subst e1
    have hl := OwnA.len t n ho
    by_cases hlt : j < A1.length
    · rw [List.getElem?_append_left hlt] at hj
      right
      simp only [MvF, List.mem_append]
      left
      rw [← hF]
      exact List.mem_filterMap.2 ⟨some b, List.mem_of_getElem? hj, rfl⟩
    · rw [List.getElem?_append_right (by omega)] at hj
      rcases own_or_mv (args := as) (vals := vs) (Fs := Fs) (n + (explF t x n).2.length) ha _ b hj with h | h
      · left
        simp only [ownKs]
        rwa [show n + (explF t x n).2.length + (j - A1.length) = n + j by omega] at h
      · right
        simp only [MvF, List.mem_append]
        exact .inr h
  | .own t x :: as, v :: vs, F :: Fs, A, n, ⟨A1, A2, cs, e1, hv, ho, hF, ha⟩, j, b, hj => by
    subst e1
    have hl := OwnA.len t n ho
    by_cases hlt : j < A1.length
    · left
      simp only [ownKs, List.mem_append, List.mem_range'_1]
      left
      omega
    · rw [List.getElem?_append_right (by omega)] at hj
      rcases own_or_mv (args := as) (vals := vs) (Fs := Fs) (n + (explF t x n).2.length) ha _ b hj with h | h
      · left
        simp only [ownKs, List.mem_append]
        right
        rwa [show n + (explF t x n).2.length + (j - A1.length) = n + j by omega] at h
      · exact .inr h

theorem ownOut_seq {m : Mem} : ∀ (t : Ty) {x y : t.D} {n n' : Nat} {cd : List Prop}, ownOut m t x n = some (y, n', cd) → n' = n + (explF t x n).2.length ∧ ∀ k, n ≤ k → k < n' → ∃ t ys, lk k m = some (.seq t ys)
  | .int _, _, _, _, _, _, h => by simp only [ownOut] at h; injection h with h; injection h with _ h; injection h with h _; subst h; exact ⟨rfl, fun k h1 h2 => by omega⟩
  | .flt _, _, _, _, _, _, h => by simp only [ownOut] at h; injection h with h; injection h with _ h; injection h with h _; subst h; exact ⟨rfl, fun k h1 h2 => by omega⟩
  | .bool, _, _, _, _, _, h => by simp only [ownOut] at h; injection h with h; injection h with _ h; injection h with h _; subst h; exact ⟨rfl, fun k h1 h2 => by omega⟩
  | .str, _, _, _, _, _, h => by simp only [ownOut] at h; injection h with h; injection h with _ h; injection h with h _; subst h; exact ⟨rfl, fun k h1 h2 => by omega⟩
  | .st t, x, y, _, _, _, h => ownOut_seq t (x := x) (y := y) h
  | .pair a b, x, _, n, n', cd, h => by
    simp only [ownOut] at h
    split at h
    · rename_i y1 n1 c1 h1
      split at h
      · rename_i z1 n2 c2 h2
        injection h with h; injection h with _ h; injection h with h _
        subst h
        obtain ⟨e1, k1⟩ := ownOut_seq a h1
        obtain ⟨e2, k2⟩ := ownOut_seq b h2
        subst e1
        refine ⟨by rw [e2]; simp [explF, Nat.add_assoc], fun k h1 h2 => ?_⟩
        by_cases hlt : k < n + (explF a x.1 n).2.length
        · exact k1 k h1 hlt
        · exact k2 k (by omega) h2
      · cases h
    · cases h
  | .sl t, xs, _, n, n', cd, h => by
    simp only [ownOut] at h
    split at h
    · rename_i t' ys hl
      split at h
      · injection h with h; injection h with _ h; injection h with h _
        subst h
        refine ⟨rfl, fun k h1 h2 => ?_⟩
        have : k = n := by omega
        subst this
        exact ⟨_, _, hl⟩
      · cases h
    · cases h

theorem ownOuts_seq {m : Mem} : ∀ {args : List Arg} {n : Nat} {outs : List TD} {cd : List Prop}, ownOuts m args n = some (outs, cd) → ∀ k, k ∈ ownKs args n → ∃ t ys, lk k m = some (.seq t ys)
  | [], _, _, _, _, k, hk => by simp [ownKs] at hk
  | .imm _ _ :: as, n, outs, cd, h, k, hk => ownOuts_seq (args := as) (n := n) (outs := outs) (cd := cd) h k hk
  | .pimm _ _ :: as, n, outs, cd, h, k, hk => ownOuts_seq (args := as) (n := n) (outs := outs) (cd := cd) h k hk
  | .fn _ :: as, n, outs, cd, h, k, hk => ownOuts_seq (args := as) (n := n) (outs := outs) (cd := cd) h k hk
  | .nl :: as, n, outs, cd, h, k, hk => ownOuts_seq (args := as) (n := n) (outs := outs) (cd := cd) h k hk
  | .mv t x :: as, n, outs, cd, h, k, hk => ownOuts_seq (args := as) (n := n + (explF t x n).2.length) (outs := outs) (cd := cd) h k hk
  | .own t x :: as, n, outs, cd, h, k, hk => by
    simp only [ownOuts] at h
    split at h
    · rename_i y n1 c1 hy
      split at h
      · rename_i l c2 hl
        obtain ⟨e1, h1⟩ := ownOut_seq t hy
        simp only [ownKs, List.mem_append, List.mem_range'_1] at hk
        rcases hk with hk | hk
        · exact h1 k hk.1 (by omega)
        · exact ownOuts_seq hl k (by rw [e1]; exact hk)
      · cases h
    · cases h

theorem resOf_mk : ∀ (l : List Value), ResOf l (if h : l.toArray.size = 1 then l.toArray[0] else .tuple l.toArray)
  | [] => rfl
  | [_] => rfl
  | _ :: _ :: _ => rfl

theorem ownKs_lt : ∀ {args : List Arg} {i n k : Nat}, k ∈ ownKs args n → k < n + (argSt args i n).2.length
  | [], _, _, _, h => by simp [ownKs] at h
  | .imm _ _ :: as, i, n, k, h => ownKs_lt (args := as) (i := i + 1) h
  | .pimm _ _ :: as, i, n, k, h => ownKs_lt (args := as) (i := i + 1) h
  | .fn _ :: as, i, n, k, h => ownKs_lt (args := as) (i := i + 1) h
  | .nl :: as, i, n, k, h => ownKs_lt (args := as) (i := i + 1) h
  | .mv t x :: as, i, n, k, h => by
    have := ownKs_lt (args := as) (i := i + 1) (n := n + (explF t x n).2.length) h
    simp only [argSt, List.length_append]
    omega
  | .own t x :: as, i, n, k, h => by
    simp only [ownKs, List.mem_append, List.mem_range'_1] at h
    simp only [argSt, List.length_append]
    rcases h with h | h
    · omega
    · have := ownKs_lt (args := as) (i := i + 1) h
      omega

/-- THE RULE: a function's contract from its body's run. -/
theorem CallOK.of_body {P : Program} {f : FuncId} {fn : Func} {c : Code} {args : List Arg} {ts : List (Bool × Ty)} {rs : List RV} {outs : List TD} (hf : P.funcs[f]? = some fn) (hb : fn.body = some c)
    (hname : (fn.name == "runtime.NumGoroutine") = false) (hn : args.length ≤ fn.ntmps)
    (h : ∀ cx : Cx, cx.P = P → cx.N = fn.ntmps → cx.own.map Prod.fst = ownKs args 0 → (noMv args = true → cx.FOK) → HT cx (st0 args) c (retQ P fn args ts rs outs)) : CallOK P f args rs outs := by
  refine ⟨⟨fn, hf, hname, by rw [hb]; rfl⟩, fun w S vals Fs hS hFn hFl ha => calls_of_wp hf hb ?_⟩
  have hS2 : ∀ b, S b → (b < w.heap.size ∧ S b ∧ b ∉ Fs.flatten) := fun b hb => ⟨(hS b hb).1, hb, (hS b hb).2⟩
  obtain ⟨asg, l1, b1, hA, k1⟩ := argSt_rel (S2 := fun b => b < w.heap.size ∧ S b ∧ b ∉ Fs.flatten) hS2 0 0 ha
  let chs := (argSt args 0 0).2
  let g : GM := fun k => (asg[k]?).bind id
  have hgv : ∀ j o, asg[j]? = some o → g (0 + j) = o := fun j o hj => by
    show (asg[0 + j]?).bind id = o
    rw [Nat.zero_add, hj]; rfl
  have hmem : ∀ j ch, chs[j]? = some ch → lk (0 + j) (keysFrom 0 chs) = some ch := fun j ch hj => by
    rw [lk_keysFrom, if_pos (by omega)]; simpa using hj
  obtain ⟨hfr, hld⟩ := k1 g (keysFrom 0 chs) hmem hgv
  let cx : Cx := ⟨P, fn.ntmps, w, S, Fs.flatten, (ownKs args 0).map fun k => (k, g k)⟩
  have hasgF : ∀ j b, asg[j]? = some (some b) → b ∈ Fs.flatten := fun j b hj => by
    rw [← b1]; exact List.mem_filterMap.2 ⟨some b, List.mem_of_getElem? hj, rfl⟩
  have hlkc : ∀ k ch, lk k (keysFrom 0 chs) = some ch → chs[k]? = some ch := fun k ch hk => by
    rw [lk_keysFrom, if_pos (by omega)] at hk; simpa using hk
  have hlive : ∀ k ch b, lk k (keysFrom 0 chs) = some ch → g k = some b → b ∈ Fs.flatten ∧ asg[k]? = some (some b) := fun k ch b hk hg => by
    have hg : (asg[k]?).bind id = some b := hg
    cases hx : asg[k]? with
    | none => rw [hx] at hg; simp at hg
    | some o =>
      rw [hx] at hg
      have : o = some b := hg
      subst this
      exact ⟨hasgF k b hx, rfl⟩
  have hsafe : ∀ b, (b < w.heap.size ∧ S b ∧ b ∉ Fs.flatten) → cx.safe g (keysFrom 0 chs) w b := fun b ⟨h1, h2, h3⟩ => ⟨h1, fun _ => h2, fun ⟨k, ch, q1, q2, q3⟩ => h3 (hlive k ch b q1 q3).1⟩
  have hlen : args.length = vals.length := by
    have : ∀ {as : List Arg} {vs : List Value} {Fs : List (List Nat)}, ArgsR S w as vs Fs → as.length = vs.length := by
      intro as
      induction as with
      | nil => intro vs Fs h; cases vs <;> cases Fs <;> first | rfl | exact h.elim
      | cons a as ih =>
        intro vs Fs h
        cases vs with
        | nil => exact h.elim
        | cons v vs =>
          cases Fs with
          | nil => exact h.elim
          | cons F Fs => simp [ih h.2]
    exact this ha
  have hsim : Sim cx g (st0 args) { tmps := vals.toArray ++ Array.replicate (fn.ntmps - vals.toArray.size) undef, defers := [] } w := by
    refine ⟨rfl, ?_, fun t v hl => ?_, fun k ch hk => ?_, ?_, fun k ch b hk hn' hg => ?_, KeepF.refl _ _, fun p hp => ?_⟩
    · show (vals.toArray ++ Array.replicate (fn.ntmps - vals.toArray.size) undef).size = fn.ntmps
      simp; omega
    · obtain ⟨_, u, hu, hv⟩ := hfr t v hl
      rw [Nat.sub_zero] at hu
      have hu' := (List.getElem?_eq_some_iff.1 hu)
      have : (vals.toArray ++ Array.replicate (fn.ntmps - vals.toArray.size) undef).getD t undef = u := by
        rw [Array.getD_eq_getD_getElem?, Array.getElem?_append_left (by simpa using hu'.1)]
        simp [hu]
      show VR _ _ _ _ _ ((vals.toArray ++ Array.replicate (fn.ntmps - vals.toArray.size) undef).getD t undef)
      rw [this]
      exact VR.stays (Stays.mono hsafe) hv
    · obtain ⟨_, o, ho, hch⟩ := hld.chunk k ch (hlkc k ch hk)
      have := hgv k o ho
      rw [Nat.zero_add] at this
      rw [this]
      exact ChR.stays (Stays.mono hsafe) (fun _ _ => rfl) hch
    · intro k k' ch ch' b hk _ hk' _ hg hg'
      have h1 := (hlive k ch b hk hg).2
      have h2 := (hlive k' ch' b hk' hg').2
      exact filterMap_inj (by rw [b1]; exact hFn) h1 h2
    · exact .inr (hlive k ch b hk hg).1
    · obtain ⟨k, hk, e⟩ := List.mem_map.1 hp
      subst e
      refine ⟨rfl, ?_⟩
      have hk : k < chs.length := by have := ownKs_lt (i := 0) hk; simpa [chs] using this
      show lk k (keysFrom 0 chs) ≠ none
      rw [lk_keysFrom, if_pos (by omega)]
      simp [hk]
  have hF0 : noMv args = true → cx.FOK := fun hm b hb => by
    have hb : b ∈ Fs.flatten := hb
    rw [← b1] at hb
    obtain ⟨o, ho, e⟩ := List.mem_filterMap.1 hb
    have e : o = some b := e
    subst e
    obtain ⟨j, hj⟩ := List.getElem?_of_mem ho
    rcases own_or_mv 0 hA j b hj with hk | hk
    · rw [Nat.zero_add] at hk
      refine ⟨(j, g j), List.mem_map.2 ⟨j, hk, rfl⟩, ?_⟩
      have := hgv j _ hj
      rwa [Nat.zero_add] at this
    · rw [MvF.none hm] at hk
      simp at hk
  have hbody := h cx rfl rfl (by simp [cx, List.map_map, Function.comp_def]) hF0 g _ w hsim
  refine wp_mono hbody fun e a' w' ⟨st', g', hq, hs'⟩ => ?_
  have ret : RetOK P fn args ts rs outs st' → a'.defers = [] ∧ ∃ v, (results fn a'.tmps).run P w' = .ok v w' ∧ ∃ v' F', Ending.returned v = .returned v' ∧ ResR (Behind S w w' F') w' rs v' F' ∧ F'.Nodup ∧ (∀ b, b ∈ F' → (w.heap.size ≤ b ∨ b ∈ MvF args Fs) ∧ b < w'.heap.size) ∧
      KeepF Fs.flatten w w' ∧ OutsR (Behind S w w' F') w' args vals Fs outs := by
    rintro ⟨vs, ks, cs, r1, r2, r3, r4, r5, r6⟩
    refine ⟨hs'.defers, ?_⟩
    obtain ⟨rvals, q1, q2⟩ := resI_run hs' r1
    obtain ⟨l, p1, p2, p3⟩ := retI_rel hs' r2 q2
    have hres : (results fn a'.tmps).run P w' = .ok (if h : rvals.toArray.size = 1 then rvals.toArray[0] else .tuple rvals.toArray) w' := by
      have e : results fn a'.tmps = (do
          let vs ← fn.results.mapM (resS a'.tmps)
          pure (if h : vs.size = 1 then vs[0] else .tuple vs)) := by
        have hm : (fun r : ResultVar => (match r with | .tmp t => (pure (a'.tmps.getD t undef) : Sem Value) | .cell x t => do loadVar t (← asAddr (a'.tmps.getD x undef)))) = resS a'.tmps := by
          funext r; cases r <;> rfl
        rw [← hm]
        rfl
      have q1 : (fn.results.toList.mapM (resS a'.tmps)).run P w' = .ok rvals w' := q1
      rw [e, Array.mapM_eq_mapM_toList]
      simp only [Sem.run_bind, Sem.run_map, q1, Result.andThen_ok, Sem.run_pure]
    have hblk : ∀ p, p ∈ l → p.2 < w'.heap.size ∧ Live g' st'.mem p.2 := fun p hp => by
      obtain ⟨a1, t, xs, a2⟩ := p3 p hp
      exact ⟨hs'.live_lt a2 (by simp) a1, p.1, _, a2, by simp, a1⟩
    have hnew : ∀ b, b ∈ l.map Prod.snd → (w.heap.size ≤ b ∨ b ∈ MvF args Fs) ∧ b < w'.heap.size := fun b hb => by
      obtain ⟨p, hp, rfl⟩ := List.mem_map.1 hb
      refine ⟨?_, (hblk p hp).1⟩
      obtain ⟨a1, t, xs, a2⟩ := p3 p hp
      rcases hs'.base p.1 _ p.2 a2 (by simp) a1 with hx | hx
      · exact .inl hx
      · right
        have hx : p.2 ∈ Fs.flatten := hx
        rw [← b1] at hx
        obtain ⟨o, ho, e⟩ := List.mem_filterMap.1 hx
        have e : o = some p.2 := e
        subst e
        obtain ⟨j, hj⟩ := List.getElem?_of_mem ho
        rcases own_or_mv 0 hA j p.2 hj with hk | hk
        · exfalso
          rw [Nat.zero_add] at hk
          obtain ⟨t', ys, hl'⟩ := ownOuts_seq r5 j hk
          have hgj : g' j = some p.2 := by
            have := (hs'.own (j, g j) (List.mem_map.2 ⟨j, hk, rfl⟩)).1
            simp only at this
            rw [this]
            have := hgv j _ hj
            rwa [Nat.zero_add] at this
          have := hs'.inj p.1 j _ _ p.2 a2 (by simp) hl' (by simp) a1 hgj
          have hin : p.1 ∈ ks := p2.subset (List.mem_map.2 ⟨p, hp, rfl⟩)
          have hno := List.all_eq_true.1 r4 _ hin
          rw [this, memK_iff.2 hk] at hno
          cases hno
        · exact hk
    have hnd : (l.map Prod.snd).Nodup := by
      have h1 : (l.map Prod.fst).Nodup := p2.nodup (nodupB_spec r3)
      have : ∀ l : List (Nat × Nat), (∀ p ∈ l, g' p.1 = some p.2 ∧ ∃ t xs, lk p.1 st'.mem = some (.seq t xs)) → (l.map Prod.fst).Nodup → (l.map Prod.snd).Nodup := by
        intro l
        induction l with
        | nil => intro _ _; simp
        | cons p l ih =>
          intro hp hn
          simp only [List.map_cons, List.nodup_cons] at hn ⊢
          refine ⟨fun hmem => ?_, ih (fun q hq => hp q (List.mem_cons_of_mem _ hq)) hn.2⟩
          obtain ⟨q, hq, e⟩ := List.mem_map.1 hmem
          obtain ⟨a1, t1, x1, c1⟩ := hp p (by simp)
          obtain ⟨a2, t2, x2, c2⟩ := hp q (List.mem_cons_of_mem _ hq)
          have := hs'.inj p.1 q.1 _ _ p.2 c1 (by simp) c2 (by simp) a1 (by rw [a2, e])
          exact hn.1 (by rw [this]; exact List.mem_map.2 ⟨q, hq, rfl⟩)
      exact this l p3 h1
    have hbeh : ∀ b, cx.safe g' st'.mem w' b → Behind S w w' (l.map Prod.snd) b := fun b ⟨h1, h2, h3⟩ => ⟨h1, h2, fun hb => by
      obtain ⟨p, hp, e⟩ := List.mem_map.1 hb
      exact h3 (by rw [← e]; exact (hblk p hp).2)⟩
    refine ⟨_, hres, _, l.map Prod.snd, rfl, ⟨rvals, RVsR.mono hbeh p1, ?_⟩, hnd, hnew, hs'.keep, ?_⟩
    · exact resOf_mk rvals
    · refine ownOuts_rel (S := fun b => b < w.heap.size ∧ S b ∧ b ∉ Fs.flatten) (g := g') (m := st'.mem) (w := w') (n := 0) (fun k ch hk => ChR.stays (Stays.mono hbeh) (fun _ _ => rfl) (hs'.mem k ch hk)) hs'.keep.sz hA r5 r6 fun j o hj hmem => ?_
      rw [Nat.zero_add] at hmem ⊢
      have := (hs'.own (j, g j) (List.mem_map.2 ⟨j, hmem, rfl⟩)).1
      simp only at this
      rw [this]
      have := hgv j o hj
      rw [Nat.zero_add] at this
      exact this
  cases e with
  | normal => exact ret hq
  | ret => exact ret hq
  | _ => exact hq.elim

end Go.Ide

/-
  An operation's effect hangs only on what it looks at.
-/
namespace Go.Ide

def MM (m m' : Mem) : Prop := ∀ k ch, lk k m = some ch → lk k m' = some ch

section
variable {P : Program} {m m' : Mem}

theorem cdat_mono (h : MM m m') {t : Ty} {c : ICell} {x : t.D} (he : cdat m t c = some x) : cdat m' t c = some x := by
  cases c with
  | all c =>
    simp only [cdat] at he ⊢
    split at he
    · cases hx : lk c m with
      | none => simp [hx] at he
      | some ch => rw [hx] at he; rw [h _ _ hx]; exact he
    · cases he
  | ref c off len =>
    simp only [cdat] at he ⊢
    split at he
    · cases hx : lk c m with
      | none => simp [hx] at he
      | some ch => rw [hx] at he; rw [h _ _ hx]; exact he
    · cases he
  | _ => exact he

theorem impl1_mono (h : MM m m') {t : Ty} {cs : List ICell} {x : t.D × List ICell} (he : impl1 m t cs = some x) : impl1 m' t cs = some x := by
  cases cs with
  | nil => exact he
  | cons c r =>
    simp only [impl1] at he ⊢
    cases hx : cdat m t c with
    | none => simp [hx] at he
    | some y => rw [hx] at he; rw [cdat_mono h hx]; exact he

theorem impl_mono (h : MM m m') : ∀ (t : Ty) {cs : List ICell} {x : t.D × List ICell}, impl m t cs = some x → impl m' t cs = some x
  | .int _, _, _, he => impl1_mono h he
  | .flt _, _, _, he => impl1_mono h he
  | .bool, _, _, he => impl1_mono h he
  | .str, _, _, he => impl1_mono h he
  | .sl _, _, _, he => impl1_mono h he
  | .st t, _, _, he => impl_mono h t he
  | .pair a b, cs, x, he => by
    simp only [impl] at he ⊢
    cases h1 : impl m a cs with
    | none => simp [h1] at he
    | some p =>
      obtain ⟨y, r⟩ := p
      rw [h1] at he
      rw [impl_mono h a h1]
      simp only at he ⊢
      cases h2 : impl m b r with
      | none => simp [h2] at he
      | some q =>
        rw [h2] at he
        rw [impl_mono h b h2]
        exact he

theorem vdat_mono (h : MM m m') {t : Ty} {v : IVal} {x : t.D} (he : vdat m t v = some x) : vdat m' t v = some x := by
  unfold vdat at he ⊢
  split at he
  · rename_i c hst
    cases h1 : impl m t [c] with
    | none => simp [h1] at he
    | some p => rw [h1] at he; (try simp only [hst]); rw [impl_mono h t h1]; exact he
  · rename_i cs hst
    cases h1 : impl m t cs with
    | none => simp [h1] at he
    | some p => rw [h1] at he; (try simp only [hst]); rw [impl_mono h t h1]; exact he
  · cases he

theorem iLoad_mono (h : MM m m') {T : TypeId} {v : IVal} {e : Eff} (he : iLoad P m T v = some e) : iLoad P m' T v = some e := by
  unfold iLoad at he ⊢
  split at he
  · rename_i c i sz off n ag hs ha
    try simp only [hs, ha]
    cases hx : lk c m with
    | none => simp [hx] at he
    | some ch => rw [hx] at he; rw [h _ _ hx]; exact he
  · rename_i c n ag hne hs ha
    try simp only [hs, ha]
    have key : ∀ r, cellsAt m n c = some r → cellsAt m' n c = some r := by
      intro r hr
      cases c with
      | ptr k off =>
        simp only [cellsAt] at hr ⊢
        cases hx : lk k m with
        | none => simp [hx] at hr
        | some ch => rw [hx] at hr; rw [h _ _ hx]; exact hr
      | _ => exact hr
    cases hc : cellsAt m n c with
    | none => simp [hc] at he
    | some r =>
      rw [hc] at he
      cases c with
      | elp k i sz off => exact absurd rfl (hne k i sz off)
      | _ => simp only [key _ hc]; exact he
  · cases he

theorem iStore_mono (h : MM m m') {T : TypeId} {a v : IVal} {e : Eff} (he : iStore P m T a v = some e) : iStore P m' T a v = some e := by
  unfold iStore at he ⊢
  split at he
  · rename_i c off n hs
    try simp only [hs]
    cases hx : lk c m with
    | none => simp [hx] at he
    | some ch => rw [hx] at he; rw [h _ _ hx]; exact he
  · rename_i c i sz off n hs
    try simp only [hs]
    cases hx : lk c m with
    | none => simp [hx] at he
    | some ch => rw [hx] at he; rw [h _ _ hx]; exact he
  · cases he

theorem iIndexAddr_mono (h : MM m m') {T : TypeId} {x i : IVal} {e : Eff} (he : iIndexAddr P m T x i = some e) : iIndexAddr P m' T x i = some e := by
  unfold iIndexAddr at he ⊢
  split at he
  · rename_i el k n hu
    try simp only [hu]
    split at he
    · rename_i t xs kz hs
      try simp only [hs]
      exact he
    · rename_i c kz hs
      try simp only [hs]
      cases hx : lk c m with
      | none => simp [hx] at he
      | some ch => rw [hx] at he; rw [h _ _ hx]; exact he
    · rename_i c off len kz hs
      try simp only [hs]
      cases hx : lk c m with
      | none => simp [hx] at he
      | some ch => rw [hx] at he; rw [h _ _ hx]; exact he
    · cases he
  · cases he

theorem iLen_mono (h : MM m m') {x : IVal} {e : Eff} (he : iLen m x = some e) : iLen m' x = some e := by
  unfold iLen at he ⊢
  split at he
  · exact he
  · exact he
  · rename_i c
    try simp only
    cases hx : lk c m with
    | none => simp [hx] at he
    | some ch => rw [hx] at he; rw [h _ _ hx]; exact he
  · rename_i c off len
    try simp only
    cases hx : lk c m with
    | none => simp [hx] at he
    | some ch => rw [hx] at he; rw [h _ _ hx]; exact he
  · exact he
  · cases he

theorem iLenT_mono (h : MM m m') {T : TypeId} {x : IVal} {e : Eff} (he : iLenT P m T x = some e) : iLenT P m' T x = some e := by
  unfold iLenT at he ⊢
  split at he
  all_goals first
    | (rename_i hu; (try simp only [hu]); exact iLen_mono h he)
    | cases he

theorem appBase_mono (h : MM m m') {t : Ty} {x : IVal} {r : List t.D × List (Nat × Chunk)} (he : appBase m t x = some r) : appBase m' t x = some r := by
  unfold appBase at he ⊢
  split at he
  · exact he
  · rename_i c
    try simp only
    cases hx : lk c m with
    | none => simp [hx] at he
    | some ch => rw [hx] at he; rw [h _ _ hx]; exact he
  · rename_i c len
    try simp only
    cases hx : lk c m with
    | none => simp [hx] at he
    | some ch => rw [hx] at he; rw [h _ _ hx]; exact he
  · cases he

theorem iAppend_mono (h : MM m m') {nx : Nat} {T T' : TypeId} {t : Ty} {s x : IVal} {e : Eff} (he : iAppend P m nx T T' t s x = some e) : iAppend P m' nx T T' t s x = some e := by
  unfold iAppend at he ⊢
  split at he
  · rename_i el hu
    split at he
    · rename_i i hi
      try simp only [hi]
      cases hb : ((Nat.beq T T' && Nat.beq i.size t.size) && (Nat.ble i.bytes 32768 && i.zero.isSome) && (i.zero.map fun z => Nat.beq z.cells.size t.size).getD false) with
      | false => rw [hb] at he; cases he
      | true =>
        rw [hb] at he
        simp only [cond_true] at he ⊢
        cases h1 : appBase m t s with
        | none => simp [h1] at he
        | some r =>
          cases h2 : vdat m (.sl t) x with
          | none => simp [h1, h2] at he
          | some ys =>
            rw [h1, h2] at he
            rw [appBase_mono h h1, vdat_mono h h2]
            exact he
    · cases he
  · cases he

theorem iSlice_mono (h : MM m m') {T : TypeId} {x : IVal} {lo hi : Option IVal} {e : Eff} (he : iSlice P m T x lo hi = some e) : iSlice P m' T x lo hi = some e := by
  unfold iSlice at he ⊢
  split at he
  · rename_i xs hu; (try simp only [hu]); exact he
  · rename_i el hu; (try simp only [hu]); exact he
  · rename_i el t xs hu; (try simp only [hu]); exact he
  · rename_i el c hu
    try simp only [hu]
    cases hx : lk c m with
    | none => simp [hx] at he
    | some ch => rw [hx] at he; rw [h _ _ hx]; exact he
  · rename_i el c off len hu
    try simp only [hu]
    cases hx : lk c m with
    | none => simp [hx] at he
    | some ch => rw [hx] at he; rw [h _ _ hx]; exact he
  · cases he

theorem ownKeysAll_any : ∀ (ms : List Mode) (vs : List IVal), ownKeysAll m ms vs = ownKeysAll m' ms vs
  | [], [] => rfl
  | [], _ :: _ => rfl
  | .own t :: ms, v :: vs => by simp only [ownKeysAll]; rw [ownKeys_any (m' := m') t v.cells, ownKeysAll_any ms vs]
  | .mv t :: ms, v :: vs => by simp only [ownKeysAll]; rw [ownKeys_any (m' := m') t v.cells, ownKeysAll_any ms vs]
  | .imm _ :: ms, _ :: vs => ownKeysAll_any ms vs
  | .pimm _ :: ms, _ :: vs => ownKeysAll_any ms vs
  | .fn :: ms, _ :: vs => ownKeysAll_any ms vs
  | .nl :: ms, _ :: vs => ownKeysAll_any ms vs
  | .own _ :: _, [] => rfl
  | .mv _ :: _, [] => rfl
  | .nl :: _, [] => rfl
  | .imm _ :: _, [] => rfl
  | .pimm _ :: _, [] => rfl
  | .fn :: _, [] => rfl

theorem argOf_mono (h : MM m m') {md : Mode} {v : IVal} {a : Arg} (he : argOf m md v = some a) : argOf m' md v = some a := by
  unfold argOf at he ⊢
  split at he
  · rename_i v1 t
    try simp only
    cases h1 : vdat m t v with
    | none => simp [h1] at he
    | some x => rw [h1] at he; rw [vdat_mono h h1]; exact he
  · rename_i v1 t
    try simp only
    cases h1 : vdat m t v with
    | none => simp [h1] at he
    | some x => rw [h1] at he; rw [vdat_mono h h1]; exact he
  · rename_i v1 t
    try simp only
    cases h1 : vdat m t v with
    | none => simp [h1] at he
    | some x => rw [h1] at he; rw [vdat_mono h h1]; exact he
  · rename_i t t' x off
    try simp only
    cases h1 : impl m t (((expl t' x).drop off).take t.size) with
    | none => simp [h1] at he
    | some p => rw [h1] at he; rw [impl_mono h t h1]; exact he
  · exact he
  · exact he
  · cases he

theorem argP_mono {m2 m2' : Mem} (h : MM m m') (h2 : MM m2 m2') {md : Mode} {v : IVal} {a : Arg} (he : argP m m2 md v = some a) : argP m' m2' md v = some a := by
  unfold argP at he ⊢
  split at he
  · rename_i t c off
    try simp only
    cases hx : lk c m with
    | none => simp [hx] at he
    | some ch =>
      rw [hx] at he
      rw [h _ _ hx]
      cases ch with
      | box cs =>
        simp only at he ⊢
        cases h1 : impl m2 t ((cs.drop off).take t.size) with
        | none => simp [h1] at he
        | some p => rw [h1] at he; rw [impl_mono h2 t h1]; exact he
      | seq t' xs => cases he
      | gone => cases he
  · exact argOf_mono h2 he

theorem argsOf_mono {m2 m2' : Mem} (h : MM m m') (h2 : MM m2 m2') : ∀ {ms : List Mode} {vs : List IVal} {as : List Arg}, argsOf m m2 ms vs = some as → argsOf m' m2' ms vs = some as := by
  intro ms
  induction ms with
  | nil => intro vs as he; cases vs <;> exact he
  | cons md ms ih =>
    intro vs as he
    cases vs with
    | nil => cases md <;> exact he
    | cons v vs =>
      cases md with
      | own t =>
        simp only [argsOf] at he ⊢
        cases h1 : argOf m (.own t) v with
        | none => simp [h1] at he
        | some a =>
          cases h3 : argsOf m m2 ms vs with
          | none => simp [h1, h3] at he
          | some l => rw [h1, h3] at he; rw [argOf_mono h h1, ih h3]; exact he
      | mv t =>
        simp only [argsOf] at he ⊢
        cases h1 : argOf m (.mv t) v with
        | none => simp [h1] at he
        | some a =>
          cases h3 : argsOf m m2 ms vs with
          | none => simp [h1, h3] at he
          | some l => rw [h1, h3] at he; rw [argOf_mono h h1, ih h3]; exact he
      | nl =>
        simp only [argsOf] at he ⊢
        cases h1 : argP m m2 .nl v with
        | none => simp [h1] at he
        | some a =>
          cases h3 : argsOf m m2 ms vs with
          | none => simp [h1, h3] at he
          | some l => rw [h1, h3] at he; rw [argP_mono h h2 h1, ih h3]; exact he
      | imm t =>
        simp only [argsOf] at he ⊢
        cases h1 : argP m m2 (.imm t) v with
        | none => simp [h1] at he
        | some a =>
          cases h3 : argsOf m m2 ms vs with
          | none => simp [h1, h3] at he
          | some l => rw [h1, h3] at he; rw [argP_mono h h2 h1, ih h3]; exact he
      | pimm t =>
        simp only [argsOf] at he ⊢
        cases h1 : argP m m2 (.pimm t) v with
        | none => simp [h1] at he
        | some a =>
          cases h3 : argsOf m m2 ms vs with
          | none => simp [h1, h3] at he
          | some l => rw [h1, h3] at he; rw [argP_mono h h2 h1, ih h3]; exact he
      | fn =>
        simp only [argsOf] at he ⊢
        cases h1 : argP m m2 .fn v with
        | none => simp [h1] at he
        | some a =>
          cases h3 : argsOf m m2 ms vs with
          | none => simp [h1, h3] at he
          | some l => rw [h1, h3] at he; rw [argP_mono h h2 h1, ih h3]; exact he

theorem MM.app {l : Mem} (h : MM m m') : MM (l ++ m) (l ++ m') := fun k ch hk => by
  rw [lk_append] at hk ⊢
  cases hx : lk k l with
  | none => rw [hx] at hk; exact h k ch (by simpa using hk)
  | some c => rw [hx] at hk; simpa using hk

theorem iCall_mono (h : MM m m') {nx : Nat} {ms : List Mode} {rs : List RV} {outs : List TD} {f : FuncId} {vs : List IVal} {e : Eff} (he : iCall P m nx ms rs outs f vs = some e) : iCall P m' nx ms rs outs f vs = some e := by
  unfold iCall at he ⊢
  rw [ownKeysAll_any (m := m') (m' := m)]
  split at he
  · rename_i ks up hk hu
    try simp only [hk, hu]
    split at he
    · rename_i as has
      try simp only [has]
      exact he
    · rename_i has
      try simp only [has]
      cases hb : ((rs.all RV.okAlone && modesFlat ms) && nodupB ks) with
      | false => rw [hb] at he; cases he
      | true =>
        rw [hb] at he
        simp only [cond_true] at he ⊢
        cases h3 : argsOf m ((ks.map fun k => (k, Chunk.gone)) ++ m) ms vs with
        | none => simp [h3] at he
        | some as => rw [h3] at he; rw [argsOf_mono h (MM.app h) h3]; exact he
  · cases he

theorem iAppendS_mono (h : MM m m') {nx : Nat} {T T' : TypeId} {s x : IVal} {e : Eff} (he : iAppendS P m nx T T' s x = some e) : iAppendS P m' nx T T' s x = some e := by
  unfold iAppendS at he ⊢
  split at he
  · rename_i el y hu hu'
    try simp only
    split at he
    · rename_i i hi
      try simp only [hi]
      cases hb : ((isByteSlice P T && Nat.beq i.size 1) && (Nat.ble i.bytes 32768 && i.zero.isSome) && (i.zero.map fun z => Nat.beq z.cells.size 1).getD false) with
      | false => rw [hb] at he; cases he
      | true =>
        rw [hb] at he
        simp only [cond_true] at he ⊢
        cases h1 : appBase m (.int .u8) s with
        | none => simp [h1] at he
        | some r =>
          rw [h1] at he
          rw [appBase_mono h h1]
          exact he
    · cases he
  · cases he

theorem iConvertM_mono (h : MM m m') {nx : Nat} {T U : TypeId} {x : IVal} {e : Eff} (he : iConvertM P m nx T U x = some e) : iConvertM P m' nx T U x = some e := by
  unfold iConvertM at he ⊢
  split at he
  · exact he
  · exact he
  · exact he
  · rename_i c _ _
    try simp only
    cases hb : (Nat.beq T U && isByteSlice P T) with
    | false => rw [hb] at he; cases he
    | true =>
      rw [hb] at he
      simp only [cond_true] at he ⊢
      cases hx : lk c m with
      | none => simp [hx] at he
      | some ch => rw [hx] at he; rw [h _ _ hx]; exact he
  · try simp only
    cases hb : isByteSlice P T with
    | false => rw [hb] at he; cases he
    | true =>
      rw [hb] at he
      simp only [cond_true] at he ⊢
      split at he
      · rename_i l hl; rw [vdat_mono h hl]; exact he
      · cases he
  · exact he

theorem iBuiltin_mono (h : MM m m') {fr : Fr} {nx : Nat} {hh : Hint} {b : Builtin} {args : List Operand} {ts : List TypeId} {e : Eff} (he : iBuiltin P fr m nx hh b args ts = some e) : iBuiltin P fr m' nx hh b args ts = some e := by
  unfold iBuiltin at he ⊢
  split at he
  · rename_i x T
    try simp only
    split at he
    · rename_i v hv; (try simp only [hv]); exact iLenT_mono h he
    · cases he
  · rename_i s x T T'
    try simp only
    split at he
    · rename_i t sv xv hs hx; (try simp only [hs, hx]); exact iAppend_mono h he
    · rename_i sv xv hs hx; (try simp only [hs, hx]); exact iAppendS_mono h he
    · rename_i t sv xv hs hx; (try simp only [hs, hx]); exact he
    · cases he
  · exact he
  · exact he
  · exact he
  · cases he

theorem iop_mono (h : MM m m') {fr : Fr} {nx : Nat} {hh : Hint} {o : Oper} {e : Eff} (he : iop P fr m nx hh o = some e) : iop P fr m' nx hh o = some e := by
  unfold iop at he ⊢
  split at he
  case h_8 T x ho =>
    try simp only
    split at he
    · rename_i v hv; (try simp only [hv]); exact iLoad_mono h he
    · cases he
  case h_9 T x y ho =>
    try simp only
    split at he
    · rename_i xv yv hx hy; (try simp only [hx, hy]); exact iStore_mono h he
    · cases he
  case h_13 T U x ho =>
    try simp only
    split at he
    · rename_i v hv; (try simp only [hv]); exact iConvertM_mono h he
    · cases he
  case h_15 T x lo hi ho =>
    try simp only
    split at he
    · rename_i v l h' hv hl hh; (try simp only [hv, hl, hh]); exact iSlice_mono h he
    · cases he
  case h_18 T x i ho =>
    try simp only
    split at he
    · rename_i v j hv hj; (try simp only [hv, hj]); exact iIndexAddr_mono h he
    · cases he
  case h_21 c ho =>
    try simp only
    split at he
    · rename_i b hb; (try simp only [hb]); exact iBuiltin_mono h he
    · rename_i f hf
      try simp only [hf]
      split at he
      · rename_i ms rs outs k vs hk hvs; (try simp only [hk, hvs]); exact iCall_mono h he
      · cases he
    · cases he
  all_goals first
    | exact he
    | cases he

end
end Go.Ide

/-
  Regions whose order is drawn.
-/
namespace Go.Ide

abbrev ER := Option Tmp × Eff

/-- What an operation leaves in memory. -/
def effM (e : Eff) : Mem := e.upd ++ e.new

/-- Operations that neither look at memory nor change it. -/
def blindB (o : Oper) : Bool :=
  match o.op with
  | .move _ => true
  | .assign _ => true
  | .pick _ _ _ => true
  | .binOp _ _ _ _ _ => true
  | .unOp _ _ _ => true
  | .fieldAddr _ _ _ => true
  | .index _ _ _ => true
  | .extract _ _ => true
  | .nilCheck _ => true
  | _ => false

/-- The state that those of the operations have made that are told. -/
def selFr (sel : Nat → Bool) : Nat → List ER → Fr → Fr
  | _, [], fr => fr
  | i, (d, e) :: r, fr => selFr sel (i + 1) r (bif sel i then (match d with | some t => (t, e.val) :: fr | none => fr) else fr)

def selMem (sel : Nat → Bool) : Nat → List ER → Mem → Mem
  | _, [], m => m
  | i, (_, e) :: r, m => selMem sel (i + 1) r (bif sel i then effM e ++ m else m)

def lastW (sel : Nat → Bool) (t : Tmp) : Nat → List ER → Option IVal
  | _, [] => none
  | i, (d, e) :: r => (lastW sel t (i + 1) r).or (if sel i = true ∧ d = some t then some e.val else none)

def lastN (sel : Nat → Bool) (k : Nat) : Nat → List ER → Option Chunk
  | _, [] => none
  | i, (_, e) :: r => (lastN sel k (i + 1) r).or (if sel i = true then lk k (effM e) else none)

theorem lk_selFr {sel : Nat → Bool} {t : Tmp} : ∀ {l : List ER} {n : Nat} {fr : Fr}, lk t (selFr sel n l fr) = (lastW sel t n l).or (lk t fr)
  | [], _, _ => by simp [selFr, lastW]
  | (d, e) :: r, n, fr => by
    simp only [selFr, lastW]
    rw [lk_selFr, Option.or_assoc]
    congr 1
    cases hs : sel n with
    | false => simp
    | true =>
      simp only [cond_true, true_and]
      cases d with
      | none => simp
      | some t' =>
        rw [lk_cons]
        by_cases h : t = t'
        · subst h; simp
        · rw [if_neg h, if_neg (fun e => h (by injection e with e; exact e.symm))]; rfl

theorem lk_selMem {sel : Nat → Bool} {k : Nat} : ∀ {l : List ER} {n : Nat} {m : Mem}, lk k (selMem sel n l m) = (lastN sel k n l).or (lk k m)
  | [], _, _ => by simp [selMem, lastN]
  | (d, e) :: r, n, m => by
    simp only [selMem, lastN]
    rw [lk_selMem, Option.or_assoc]
    congr 1
    cases hs : sel n with
    | false => simp
    | true => simp only [cond_true, if_true]; rw [lk_append]

theorem lastW_congr {sel sel' : Nat → Bool} {t : Tmp} : ∀ {l : List ER} {n : Nat}, (∀ (j : Nat) (d : Option Tmp) (e : Eff), l[j]? = some (d, e) → d = some t → sel (n + j) = sel' (n + j)) → lastW sel t n l = lastW sel' t n l
  | [], _, _ => rfl
  | (d, e) :: r, n, h => by
    simp only [lastW]
    have ih : lastW sel t (n + 1) r = lastW sel' t (n + 1) r := lastW_congr fun j d e hj hd => by
      have := h (j + 1) d e (by simpa using hj) hd
      have e1 : n + (j + 1) = n + 1 + j := by omega
      rw [e1] at this
      exact this
    have hh : (if sel n = true ∧ d = some t then some e.val else none) = if sel' n = true ∧ d = some t then some e.val else none := by
      by_cases hd : d = some t
      · have h0 : sel n = sel' n := by simpa using h 0 d e rfl hd
        rw [h0]
      · rw [if_neg (fun x => hd x.2), if_neg (fun x => hd x.2)]
    rw [ih, hh]

theorem lastW_at {sel : Nat → Bool} {t : Tmp} {v : Eff} : ∀ {l : List ER} {n i : Nat}, l[i]? = some (some t, v) → sel (n + i) = true → (∀ (j : Nat) (d : Option Tmp) (e : Eff), i < j → l[j]? = some (d, e) → d = some t → sel (n + j) = false) → lastW sel t n l = some v.val
  | [], n, i, h, _, _ => by simp at h
  | (d, e) :: r, n, 0, h, hs, hn => by
    simp at h
    obtain ⟨rfl, rfl⟩ := h
    have hz : lastW sel t (n + 1) r = lastW (fun _ => false) t (n + 1) r := lastW_congr fun j d e hj hd => by
      have := hn (j + 1) d e (by omega) (by simpa using hj) hd
      rwa [show n + (j + 1) = n + 1 + j from by omega] at this
    have hf : ∀ (l : List ER) (n : Nat), lastW (fun _ => false) t n l = none := by
      intro l
      induction l with
      | nil => intro _; rfl
      | cons p l ih => intro n; obtain ⟨d, e⟩ := p; simp [lastW, ih]
    simp only [lastW]
    rw [hz, hf]
    have hs : sel n = true := by simpa using hs
    simp [hs]
  | (d, e) :: r, n, i + 1, h, hs, hn => by
    simp only [lastW]
    have := lastW_at (l := r) (n := n + 1) (i := i) (by simpa using h) (by rwa [show n + (i + 1) = n + 1 + i from by omega] at hs) (fun j d e hlt hj hd => by
      have := hn (j + 1) d e (by omega) (by simpa using hj) hd
      rwa [show n + (j + 1) = n + 1 + j from by omega] at this)
    rw [this]
    rfl

theorem lastN_some {sel : Nat → Bool} {k : Nat} {ch : Chunk} : ∀ {l : List ER} {n : Nat}, lastN sel k n l = some ch → ∃ (j : Nat) (d : Option Tmp) (e : Eff), l[j]? = some (d, e) ∧ sel (n + j) = true ∧ lk k (effM e) = some ch
  | [], _, h => by simp [lastN] at h
  | (d, e) :: r, n, h => by
    simp only [lastN] at h
    cases hx : lastN sel k (n + 1) r with
    | some c =>
      rw [hx] at h
      have h : c = ch := by simpa using h
      subst h
      obtain ⟨j, d', e', h1, h2, h3⟩ := lastN_some hx
      exact ⟨j + 1, d', e', by simpa using h1, by rwa [show n + (j + 1) = n + 1 + j from by omega], h3⟩
    | none =>
      rw [hx] at h
      simp only [Option.none_or] at h
      split at h
      · rename_i hs; exact ⟨0, d, e, rfl, by simpa using hs, h⟩
      · cases h

theorem lastN_none {sel : Nat → Bool} {k : Nat} : ∀ {l : List ER} {n : Nat}, lastN sel k n l = none → ∀ (j : Nat) (d : Option Tmp) (e : Eff), l[j]? = some (d, e) → sel (n + j) = true → lk k (effM e) = none
  | [], _, _, j, d, e, hj, _ => by simp at hj
  | (d0, e0) :: r, n, h, j, d, e, hj, hs => by
    simp only [lastN, Option.or_eq_none_iff] at h
    cases j with
    | zero =>
      simp at hj
      obtain ⟨rfl, rfl⟩ := hj
      have hs : sel n = true := by simpa using hs
      have := h.2
      rwa [if_pos hs] at this
    | succ j => exact lastN_none h.1 j d e (by simpa using hj) (by rwa [show n + (j + 1) = n + 1 + j from by omega] at hs)

def memN (j : Nat) : List Nat → Bool
  | [] => false
  | a :: l => Nat.beq j a || memN j l

theorem memN_iff {j : Nat} : ∀ {l : List Nat}, memN j l = true ↔ j ∈ l
  | [] => by simp [memN]
  | a :: l => by
    simp only [memN, Bool.or_eq_true, memN_iff, List.mem_cons]
    constructor
    · rintro (h | h)
      · exact .inl (beq_of h)
      · exact .inr h
    · rintro (h | h)
      · subst h; exact .inl (Nat.beq_refl _)
      · exact .inr h

/-- The slots that an operation looks at. -/
def looksO (all : List Oper) (o : Oper) : List Tmp :=
  (o.op.operands.toList.filterMap fun | .tmp t => some t | _ => none) ++ (match o.guard with
    | some (j, _) => (gslot all j).toList
    | none => [])

def directs (o : Oper) : List Nat := (o.after.toList.filter fun e => Region.binds .any e).map (·.on)

/-- The two must not change places. -/
def conflictB (all : List Oper) (x y : Oper) : Bool :=
  (match x.dst with
  | some t => memN t (looksO all y) || (match y.dst with | some u => Nat.beq t u | none => false)
  | none => false) ||
  (match y.dst with
  | some t => memN t (looksO all x)
  | none => false)

def okFrom (all : List Oper) (Ds : List (List Nat)) (h : Nat) : Nat → List Oper → Bool
  | _, [] => true
  | i, o :: os =>
    ((directs o).all fun d => Nat.blt d i) &&
    (((Ds.getD i []).all fun j => memN j (directs o) || (directs o).any fun d => memN j (Ds.getD d []))) &&
    ((List.range i).all fun j => memN j (Ds.getD i []) || (Nat.blt i h && !(conflictB all (all.getD j default) o))) &&
    okFrom all Ds h (i + 1) os

theorem okFrom_spec {all : List Oper} {Ds : List (List Nat)} {h : Nat} : ∀ {os : List Oper} {n : Nat}, okFrom all Ds h n os = true → ∀ (i : Nat) (o : Oper), os[i]? = some o →
    (∀ d ∈ directs o, d < n + i) ∧ (∀ j ∈ Ds.getD (n + i) [], j ∈ directs o ∨ ∃ d ∈ directs o, j ∈ Ds.getD d []) ∧ (∀ j, j < n + i → j ∈ Ds.getD (n + i) [] ∨ (n + i < h ∧ conflictB all (all.getD j default) o = false))
  | [], _, _, i, o, ho => by simp at ho
  | o0 :: os, n, hk, i, o, ho => by
    simp only [okFrom, Bool.and_eq_true] at hk
    obtain ⟨⟨⟨h1, h2⟩, h3⟩, h4⟩ := hk
    cases i with
    | succ i =>
      have := okFrom_spec h4 i o (by simpa using ho)
      rwa [show n + 1 + i = n + (i + 1) from by omega] at this
    | zero =>
      simp at ho
      subst ho
      refine ⟨fun d hd => ?_, fun j hj => ?_, fun j hj => ?_⟩
      · have := List.all_eq_true.1 h1 d hd
        exact Nat.lt_of_succ_le (by simpa [Nat.blt] using this)
      · have := List.all_eq_true.1 h2 j hj
        simp only [Bool.or_eq_true] at this
        rcases this with h | h
        · exact .inl (memN_iff.1 h)
        · obtain ⟨d, hd, hm⟩ := List.any_eq_true.1 h
          exact .inr ⟨d, hd, memN_iff.1 hm⟩
      · have := List.all_eq_true.1 h3 j (by simpa using hj)
        simp only [Bool.or_eq_true, Bool.and_eq_true, Bool.not_eq_true'] at this
        rcases this with h | ⟨h, h'⟩
        · exact .inl (memN_iff.1 h)
        · exact .inr ⟨Nat.lt_of_succ_le (by simpa [Nat.blt] using h), h'⟩

theorem conflict_look {all : List Oper} {x y : Oper} (h : conflictB all x y = false) : (∀ t, x.dst = some t → t ∉ looksO all y) ∧ (∀ t, x.dst = some t → y.dst ≠ some t) ∧ (∀ t, y.dst = some t → t ∉ looksO all x) := by
  unfold conflictB at h
  simp only [Bool.or_eq_false_iff] at h
  obtain ⟨h1, h2⟩ := h
  refine ⟨fun t ht hm => ?_, fun t ht hy => ?_, fun t ht hm => ?_⟩
  · simp only [ht, Bool.or_eq_false_iff] at h1
    rw [memN_iff.2 hm] at h1
    cases h1.1
  · simp [ht, hy] at h1
  · simp only [ht] at h2
    rw [memN_iff.2 hm] at h2
    cases h2

structure HR where
  r : OH
  D : List Nat

def presB (m : Mem) (l : Mem) : Bool := l.all fun p => (lk p.1 m).isSome

/-- Of two operations that may change places, the one that changes memory meets a blind one. -/
def pairsB (all : List Oper) (o : Oper) (D : List Nat) (e : Eff) : Nat → List ER → Bool
  | _, [] => true
  | j, p :: r => (memN j D || ((e.upd.isEmpty || blindB (all.getD j default)) && (p.2.upd.isEmpty || blindB o))) && pairsB all o D e (j + 1) r

/-- The first operations, each in the state that those make that come before it in every order. -/
def ihead (P : Program) (N : Nat) (all : List Oper) (st : St) : List Oper → List HR → List ER → Nat → Option (List ER × List Prop × Nat)
  | [], _, done, nx => some (done, [], nx)
  | o :: os, r :: rs, done, nx =>
    (match igop P all o r.r (selFr (fun j => memN j r.D) 0 done st.fr) (selMem (fun j => memN j r.D) 0 done st.mem) nx with
    | some (e, cs) => bif ((dOK N o.dst && pairsB all o r.D e 0 done) && presB (selMem (fun j => memN j r.D) 0 done st.mem) e.upd) && freshB (selMem (fun _ => true) 0 done st.mem) e.new then
        (match ihead P N all st os rs (done ++ [(o.dst, e)]) (nx + e.new.length) with
        | some (l, cs', n) => some (l, cs ++ cs', n)
        | none => none) else none
    | none => none)
  | _ :: _, [], _, _ => none

/-- What is known of each of the first operations. -/
structure HeadOK (P : Program) (N : Nat) (all : List Oper) (st : St) (ers : List ER) (i : Nat) (o : Oper) (D : List Nat) : Prop where
  got : ∃ (r : OH) (nx : Nat) (e : Eff) (cs : List Prop), ers[i]? = some (o.dst, e) ∧ igop P all o r (selFr (fun j => memN j D) 0 (ers.take i) st.fr) (selMem (fun j => memN j D) 0 (ers.take i) st.mem) nx = some (e, cs) ∧ AllP cs ∧
    dOK N o.dst = true ∧ (∀ k, lk k e.upd ≠ none → lk k (selMem (fun j => memN j D) 0 (ers.take i) st.mem) ≠ none) ∧ Fresh (selMem (fun _ => true) 0 (ers.take i) st.mem) e.new ∧
    (∀ j d e', j < i → ers[j]? = some (d, e') → j ∈ D ∨ ((e.upd = [] ∨ blindB (all.getD j default) = true) ∧ (e'.upd = [] ∨ blindB o = true)))

theorem pairsB_spec {all : List Oper} {o : Oper} {D : List Nat} {e : Eff} : ∀ {l : List ER} {n : Nat}, pairsB all o D e n l = true → ∀ j d e', l[j]? = some (d, e') → (n + j) ∈ D ∨ ((e.upd = [] ∨ blindB (all.getD (n + j) default) = true) ∧ (e'.upd = [] ∨ blindB o = true))
  | [], _, _, j, d, e', hj => by simp at hj
  | p :: r, n, h, 0, d, e', hj => by
    simp only [List.getElem?_cons_zero, Option.some.injEq] at hj
    subst hj
    simp only [pairsB, Bool.and_eq_true, Bool.or_eq_true, List.isEmpty_iff] at h
    rcases h.1 with h | h
    · exact .inl (memN_iff.1 h)
    · exact .inr h
  | p :: r, n, h, j + 1, d, e', hj => by
    simp only [pairsB, Bool.and_eq_true] at h
    have := pairsB_spec h.2 j d e' (by simpa using hj)
    rwa [show n + 1 + j = n + (j + 1) from by omega] at this

theorem presB_spec {m l : Mem} (h : presB m l = true) (k : Nat) (hk : lk k l ≠ none) : lk k m ≠ none := by
  obtain ⟨c, hc⟩ := Option.ne_none_iff_exists'.1 hk
  have := List.all_eq_true.1 h _ (lk_mem hc)
  intro e
  rw [e] at this
  cases this

theorem ihead_spec {P : Program} {N : Nat} {all : List Oper} {st : St} : ∀ {os : List Oper} {rs : List HR} {done ers : List ER} {cs : List Prop} {nx nx' : Nat}, ihead P N all st os rs done nx = some (ers, cs, nx') → AllP cs →
    (∃ l, ers = done ++ l ∧ l.length = os.length) ∧ ∀ (i : Nat) (o : Oper), os[i]? = some o → HeadOK P N all st ers (done.length + i) o ((rs.map HR.D).getD i [])
  | [], rs, done, ers, cs, nx, nx', h, _ => by
    simp only [ihead] at h
    injection h with h
    injection h with h1 h
    subst h1
    exact ⟨⟨[], by simp, rfl⟩, fun i o ho => by simp at ho⟩
  | o :: os, [], done, ers, cs, nx, nx', h, _ => by cases h
  | o :: os, r :: rs, done, ers, cs, nx, nx', h, hc => by
    simp only [ihead] at h
    split at h
    · rename_i e cs0 hi
      cases hb : (((dOK N o.dst && pairsB all o r.D e 0 done) && presB (selMem (fun j => memN j r.D) 0 done st.mem) e.upd) && freshB (selMem (fun _ => true) 0 done st.mem) e.new) with
      | false => rw [hb] at h; cases h
      | true =>
        rw [hb] at h
        simp only [cond_true] at h
        simp only [Bool.and_eq_true] at hb
        obtain ⟨⟨⟨hd, hp⟩, hu⟩, hf⟩ := hb
        split at h
        · rename_i l cs' n hr
          injection h with h
          injection h with h1 h
          injection h with h2 h3
          subst h1
          subst h2
          obtain ⟨hc1, hc2⟩ := hc.append
          obtain ⟨⟨l', e1, e2⟩, hrest⟩ := ihead_spec hr hc2
          refine ⟨⟨(o.dst, e) :: l', by rw [e1]; simp, by simp [e2]⟩, fun i o' ho' => ?_⟩
          cases i with
          | zero =>
            simp at ho'
            subst ho'
            have ht : l.take done.length = done := by rw [e1]; simp
            refine ⟨⟨r.r, nx, e, cs0, ?_, ?_, hc1, hd, ?_, ?_, ?_⟩⟩
            · rw [e1]; simp
            · simp only [Nat.add_zero, ht, List.map_cons]; exact hi
            · simp only [Nat.add_zero, ht, List.map_cons]; exact presB_spec hu
            · simp only [Nat.add_zero, ht]; exact freshB_spec hf
            · intro j d e' hj hje
              have hj' : j < done.length := by simpa using hj
              have hje' : done[j]? = some (d, e') := by
                rw [e1, List.append_assoc, List.getElem?_append_left hj'] at hje; exact hje
              have := pairsB_spec hp j d e' hje'
              rw [Nat.zero_add] at this
              exact this
          | succ i =>
            have := hrest i o' (by simpa using ho')
            have hlen : (done ++ [(o.dst, e)]).length + i = done.length + (i + 1) := by simp; omega
            rw [hlen] at this
            simpa using this
        · cases h
    · cases h

theorem lastW_take {sel : Nat → Bool} {t : Tmp} : ∀ {l : List ER} {n i : Nat}, (∀ j, i ≤ j → sel (n + j) = false) → lastW sel t n (l.take i) = lastW sel t n l
  | [], _, _, _ => by simp
  | (d, e) :: r, n, 0, h => by
    have : lastW sel t n ((d, e) :: r) = lastW (fun _ => false) t n ((d, e) :: r) := lastW_congr fun j _ _ _ _ => h j (Nat.zero_le _)
    rw [this]
    have hf : ∀ (l : List ER) (n : Nat), lastW (fun _ => false) t n l = none := by
      intro l
      induction l with
      | nil => intro _; rfl
      | cons p l ih => intro n; obtain ⟨d, e⟩ := p; simp [lastW, ih]
    rw [hf]
    rfl
  | (d, e) :: r, n, i + 1, h => by
    simp only [List.take_succ_cons, lastW]
    rw [lastW_take (fun j hj => by have := h (j + 1) (by omega); rwa [show n + (j + 1) = n + 1 + j from by omega] at this)]

theorem getElem_take_er {l : List ER} {i j : Nat} {p : ER} (h : (l.take i)[j]? = some p) : j < i ∧ l[j]? = some p := by
  rw [List.getElem?_take] at h
  split at h
  · rename_i hlt; exact ⟨hlt, h⟩
  · cases h

/-- Operands in two frames that agree on what is looked at. -/
theorem ev_congr {fr fr' : Fr} {x : Operand} (h : ∀ t, x = .tmp t → lk t fr' = lk t fr) : ev fr' x = ev fr x := by
  cases x with
  | tmp t => exact h t rfl
  | _ => rfl

theorem evl_congr {fr fr' : Fr} : ∀ {xs : List Operand}, (∀ x ∈ xs, ev fr' x = ev fr x) → evl fr' xs = evl fr xs
  | [], _ => rfl
  | x :: xs, h => by simp only [evl]; rw [h x (by simp), evl_congr fun y hy => h y (by simp [hy])]

theorem evs_congr {fr fr' : Fr} : ∀ {xs : List (Nat × Operand)}, (∀ x ∈ xs.map (·.2), ev fr' x = ev fr x) → evs fr' xs = evs fr xs
  | [], _ => rfl
  | (i, x) :: xs, h => by simp only [evs]; rw [h x (by simp), evs_congr fun y hy => h y (by simp only [List.map_cons, List.mem_cons]; exact .inr hy)]

theorem evo_congr {fr fr' : Fr} {x : Option Operand} (h : ∀ y, x = some y → ev fr' y = ev fr y) : evo fr' x = evo fr x := by
  cases x with
  | none => rfl
  | some y => simp only [evo]; rw [h y rfl]

theorem iop_congr {P : Program} {fr fr' : Fr} {m : Mem} {nx : Nat} {h : Hint} {o : Oper} (hk : ∀ x ∈ o.op.operands.toList, ev fr' x = ev fr x) : iop P fr' m nx h o = iop P fr m nx h o := by
  unfold iop
  cases ho : o.op <;> rw [ho] at hk <;> simp only [Op.operands] at hk <;> try simp only
  case move x => rw [hk x (by simp)]
  case assign x => rw [hk x (by simp)]
  case pick c x y =>
    cases h with
    | tv b => simp only; rw [hk c (by simp), hk (if b then x else y) (by cases b <;> simp)]
    | _ => rfl
  case box T x => rw [hk x (by simp)]
  case build T ps => rw [evs_congr fun x hx => hk x (by simpa using hx)]
  case buildSlice T n ps => rw [evs_congr fun x hx => hk x (by simpa using hx)]
  case load T x => rw [hk x (by simp)]
  case store T x y => rw [hk x (by simp), hk y (by simp)]
  case nilCheck x => rw [hk x (by simp)]
  case binOp op T x y T' => rw [hk x (by simp), hk y (by simp)]
  case unOp op T x => rw [hk x (by simp)]
  case convert T U x => rw [hk x (by simp)]
  case makeSlice T l c => rw [hk l (by simp), hk c (by simp)]
  case slice T x lo hi mx =>
    cases mx with
    | some q =>
      try simp only
      rw [hk x (by simp), hk q (by simp), evo_congr fun y hy => hk y (by subst hy; simp), evo_congr (x := hi) fun y hy => hk y (by subst hy; simp)]
    | none =>
      try simp only
      rw [hk x (by simp), evo_congr fun y hy => hk y (by subst hy; simp), evo_congr (x := hi) fun y hy => hk y (by subst hy; simp)]
  case fieldAddr T x f => rw [hk x (by simp)]
  case indexAddr T x i => rw [hk x (by simp), hk i (by simp)]
  case index T x i => rw [hk x (by simp), hk i (by simp)]
  case extract x i => rw [hk x (by simp)]
  case call c =>
    cases hc : c.callee with
    | builtin b =>
      simp only
      have ha : ∀ x ∈ c.args.toList, ev fr' x = ev fr x := fun x hx => hk x (by simp [Call.operands, hc]; simpa using hx)
      unfold iBuiltin
      split
      · rename_i x T hal _; rw [ha x (by rw [hal]; simp)]
      · rename_i s x T T' hal _; rw [ha s (by rw [hal]; simp), ha x (by rw [hal]; simp)]
      · rename_i _ x y hal; rw [ha x (by rw [hal]; simp), ha y (by rw [hal]; simp)]
      · rename_i _ x y hal; rw [ha x (by rw [hal]; simp), ha y (by rw [hal]; simp)]
      · rename_i x T hal _; rw [ha x (by rw [hal]; simp)]
      · rfl
    | value f =>
      simp only
      rw [hk f (by simp [Call.operands, hc]), evl_congr fun x hx => hk x (by simp [Call.operands, hc]; exact .inr (by simpa using hx))]
    | invoke r n => rfl

theorem igop_congr {P : Program} {all : List Oper} {fr fr' : Fr} {m m' : Mem} {nx : Nat} {o : Oper} {r : OH} {x : Eff × List Prop} (hf : ∀ t ∈ looksO all o, lk t fr' = lk t fr) (hm : MM m m') (h : igop P all o r fr m nx = some x) : igop P all o r fr' m' nx = some x := by
  have hk : ∀ x ∈ o.op.operands.toList, ev fr' x = ev fr x := fun x hx => ev_congr fun t ht => hf t (by
    unfold looksO
    refine List.mem_append.2 (.inl (List.mem_filterMap.2 ⟨x, hx, ?_⟩))
    rw [ht])
  have hi : ∀ e, iop P fr m nx r.h o = some e → iop P fr' m' nx r.h o = some e := fun e he => by
    rw [iop_congr hk]; exact iop_mono hm he
  unfold igop at h ⊢
  cases hg : o.guard with
  | none =>
    rw [hg] at h
    simp only at h ⊢
    cases hx : iop P fr m nx r.h o with
    | none => simp [hx] at h
    | some e => rw [hx] at h; rw [hi e hx]; exact h
  | some p =>
    obtain ⟨j, want⟩ := p
    rw [hg] at h
    simp only at h ⊢
    have hgs : (gslot all j).bind (fun t => lk t fr') = (gslot all j).bind (fun t => lk t fr) := by
      cases hs : gslot all j with
      | none => rfl
      | some t =>
        simp only [Option.bind_some]
        exact hf t (by unfold looksO; simp [hg, hs])
    rw [hgs]
    split at h
    · rename_i tv b htv hb
      cases hcond : (tv == want) with
      | false => rw [hcond] at h; exact h
      | true =>
        rw [hcond] at h
        simp only [cond_true] at h ⊢
        cases hx : iop P fr m nx r.h o with
        | none => simp [hx] at h
        | some e => rw [hx] at h; rw [hi e hx]; exact h
    · exact h
    · cases h

end Go.Ide

/-
  Regions whose order is drawn, run.
-/
namespace Go.Ide

section
variable {cx : Cx} {g : GM} {st : St} {a : Act} {w : World}

theorem Sim.congr {fr' : Fr} {m' : Mem} {nx' : Nat} (h : Sim cx g st a w) (hf : ∀ t v, lk t fr' = some v → lk t st.fr = some v) (hm : ∀ k, lk k m' = lk k st.mem) : Sim cx g ⟨fr', m', nx'⟩ a w := by
  have h1 : Sim cx g (st.setMem m' nx') a w := h.turn (G := []) ⟨KeepF.refl _ _, fun b hb => (by simp at hb), fun _ _ => rfl, fun k ch hk => .inl ⟨(hm k).trans hk, fun _ b _ hb => by simp at hb⟩, fun k ch hk hk' => by
    rw [hm, hk] at hk'; cases hk'⟩
  exact ⟨h1.defers, h1.size, fun t v hl => h1.fr t v (hf t v hl), h1.mem, h1.inj, h1.base, h1.keep, h1.own⟩

theorem Sim.drew (h : Sim cx g st a w) : Sim cx g st a w.drew := by
  have h1 : Sim cx g (st.setMem st.mem st.nx) a w.drew := h.turn (G := []) ⟨KeepF.drew _ _, fun b hb => (by simp at hb), fun _ _ => rfl, fun k ch hk => .inl ⟨hk, fun _ b _ hb => by simp at hb⟩, fun k ch hk hk' => by
    rw [hk] at hk'; cases hk'⟩
  exact h1

theorem lk_ne_none {α : Type} : ∀ {l : List (Nat × α)} {p : Nat × α}, p ∈ l → lk p.1 l ≠ none
  | q :: l, p, h => by
    obtain ⟨k, x⟩ := q
    rw [lk_cons]
    split
    · simp
    · rename_i hne
      rcases List.mem_cons.1 h with e | h
      · subst e; exact absurd rfl hne
      · exact lk_ne_none h

theorem lastN_congr {sel sel' : Nat → Bool} {k : Nat} : ∀ {l : List ER} {n : Nat}, (∀ (j : Nat) (d : Option Tmp) (e : Eff), l[j]? = some (d, e) → lk k (effM e) ≠ none → sel (n + j) = sel' (n + j)) → lastN sel k n l = lastN sel' k n l
  | [], _, _ => rfl
  | (d, e) :: r, n, h => by
    simp only [lastN]
    have ih : lastN sel k (n + 1) r = lastN sel' k (n + 1) r := lastN_congr fun j d e hj hd => by
      have := h (j + 1) d e (by simpa using hj) hd
      have e1 : n + (j + 1) = n + 1 + j := by omega
      rw [e1] at this
      exact this
    have hh : (if sel n = true then lk k (effM e) else none) = if sel' n = true then lk k (effM e) else none := by
      cases hk : lk k (effM e) with
      | none => simp
      | some c =>
        have h0 : sel n = sel' n := by simpa using h 0 d e rfl (by rw [hk]; simp)
        rw [h0]
    rw [ih, hh]

/-- What the first operations make, and what of it is told. -/
structure Heads (P : Program) (N : Nat) (all : List Oper) (st : St) (h : Nat) (Ds : List (List Nat)) (ers : List ER) : Prop where
  len : ers.length = h
  ok : ∀ i, i < h → ∃ o, all[i]? = some o ∧ HeadOK P N all st ers i o (Ds.getD i [])
  deps : ∀ i o, all[i]? = some o → (∀ d ∈ directs o, d < i) ∧ (∀ j ∈ Ds.getD i [], j ∈ directs o ∨ ∃ d ∈ directs o, j ∈ Ds.getD d []) ∧ (∀ j, j < i → j ∈ Ds.getD i [] ∨ (i < h ∧ conflictB all (all.getD j default) o = false))

variable {P : Program} {N : Nat} {all : List Oper} {h : Nat} {Ds : List (List Nat)} {ers : List ER}

theorem Heads.lt (H : Heads P N all st h Ds ers) : ∀ (i j : Nat) (o : Oper), all[i]? = some o → j ∈ Ds.getD i [] → j < i := by
  intro i
  induction i using Nat.strongRecOn with
  | _ i ih =>
    intro j o ho hj
    obtain ⟨h1, h2, _⟩ := H.deps i o ho
    rcases h2 j hj with hd | ⟨d, hd, hj⟩
    · exact h1 j hd
    · have hdi := h1 d hd
      have hlt : i < all.length := (List.getElem?_eq_some_iff.1 ho).1
      exact Nat.lt_trans (ih d hdi j all[d] (List.getElem?_eq_getElem (Nat.lt_trans hdi hlt)) hj) hdi

theorem Heads.er (H : Heads P N all st h Ds ers) {i : Nat} {d : Option Tmp} {e : Eff} (he : ers[i]? = some (d, e)) : i < h ∧ ∃ o, all[i]? = some o ∧ d = o.dst ∧ all.getD i default = o := by
  have hlt : i < h := by rw [← H.len]; exact (List.getElem?_eq_some_iff.1 he).1
  obtain ⟨o, ho, ⟨⟨r, nx, e', cs, h1, _⟩⟩⟩ := H.ok i hlt
  rw [he] at h1
  injection h1 with h1
  injection h1 with h1 h2
  refine ⟨hlt, o, ho, h1, ?_⟩
  rw [List.getD_eq_getElem?_getD, ho]
  rfl

theorem effM_new {k : Nat} {e : Eff} (h : lk k (effM e) = none) : lk k e.new = none := by
  unfold effM at h
  rw [lk_append, Option.or_eq_none_iff] at h
  exact h.2

/-- Each key is made once. -/
theorem Heads.uniq (H : Heads P N all st h Ds ers) {i j : Nat} {d d' : Option Tmp} {e e' : Eff} {k : Nat} (hi : ers[i]? = some (d, e)) (hj : ers[j]? = some (d', e')) (hk : lk k e.new ≠ none) (hk' : lk k e'.new ≠ none) : i = j := by
  have aux : ∀ {i j : Nat} {d d' : Option Tmp} {e e' : Eff}, ers[i]? = some (d, e) → ers[j]? = some (d', e') → lk k e.new ≠ none → lk k e'.new ≠ none → ¬ i < j := by
    intro i j d d' e e' hi hj hk hk' hlt
    obtain ⟨_, o, ho, _⟩ := H.er hj
    obtain ⟨o', _, ⟨⟨r, nx, e1, cs, h1, _, _, _, _, hf, _⟩⟩⟩ := H.ok j (H.er hj).1
    rw [hj] at h1
    injection h1 with h1
    injection h1 with _ h1
    subst h1
    obtain ⟨c, hc⟩ := Option.ne_none_iff_exists'.1 hk'
    have hz := hf _ (lk_mem hc)
    rw [lk_selMem, Option.or_eq_none_iff] at hz
    exact hk (effM_new (lastN_none hz.1 i d e (by rw [List.getElem?_take, if_pos hlt]; exact hi) rfl))
  rcases Nat.lt_trichotomy i j with h | h | h
  · exact absurd h (aux hi hj hk hk')
  · exact h
  · exact absurd h (aux hj hi hk' hk)

theorem Heads.notold (H : Heads P N all st h Ds ers) {i : Nat} {d : Option Tmp} {e : Eff} {k : Nat} (hi : ers[i]? = some (d, e)) (hk : lk k e.new ≠ none) : lk k st.mem = none := by
  obtain ⟨o', _, ⟨⟨r, nx, e1, cs, h1, _, _, _, _, hf, _⟩⟩⟩ := H.ok i (H.er hi).1
  rw [hi] at h1
  injection h1 with h1
  injection h1 with _ h1
  subst h1
  obtain ⟨c, hc⟩ := Option.ne_none_iff_exists'.1 hk
  have hz := hf _ (lk_mem hc)
  rw [lk_selMem, Option.or_eq_none_iff] at hz
  exact hz.2

theorem blind_iop {m : Mem} {nx : Nat} {hh : Hint} {fr : Fr} {o : Oper} {e : Eff} (hb : blindB o = true) (he : iop P fr m nx hh o = some e) : e.new = [] ∧ e.upd = [] := by
  unfold iop at he
  unfold blindB at hb
  have pur : ∀ {v : IVal} {e : Eff}, pureE v = some e → e.new = [] ∧ e.upd = [] := by
    intro v e h; injection h with h; subst h; exact ⟨rfl, rfl⟩
  have puc : ∀ {v : IVal} {c : List Prop} {e : Eff}, pureC v c = some e → e.new = [] ∧ e.upd = [] := by
    intro v c e h; injection h with h; subst h; exact ⟨rfl, rfl⟩
  cases ho : o.op <;> rw [ho] at hb he <;> try (cases hb; done)
  all_goals simp only at he
  case move => split at he; exact pur he; cases he
  case assign => split at he; exact pur he; cases he
  case pick =>
    split at he
    · split at he
      · unfold iPick at he; split at he; exact puc he; cases he
      · cases he
    · cases he
  case binOp =>
    split at he
    · unfold iBinF at he
      split at he
      · split at he
        · split at he
          · exact pur he
          · unfold iFCmp at he; split at he <;> first | exact pur he | cases he
        · cases he
      · unfold iStructEq at he
        split at he
        · rename_i T _ _ _ _ _ _ _ _ _
          revert he
          generalize (_ || _ : Bool) = q
          intro he
          cases q
          · simp only [cond_false] at he
            split at he <;> first | exact pur he | cases he
          · cases he
        · cases he
      · unfold iBin at he
        split at he
        · split at he
          · unfold iShift at he; split at he <;> first | exact puc he | cases he
          · split at he
            · unfold iInt at he
              split at he <;> first | exact pur he | exact puc he | (split at he <;> first | exact pur he | cases he)
            · cases he
        · unfold iStr at he; split at he <;> first | exact pur he | exact puc he | cases he
        · split at he <;> first | exact pur he | cases he
        · cases he
    · cases he
  case unOp =>
    split at he
    · unfold iUnF at he
      split at he
      · exact pur he
      · unfold iUn at he; split at he <;> first | exact pur he | cases he
    · cases he
  case fieldAddr =>
    split at he
    · unfold iFieldAddr at he
      split at he
      · split at he
        · split at he <;> first | exact pur he | cases he
        · cases he
      · cases he
    · cases he
  case index =>
    split at he
    · unfold iIndex at he; split at he <;> first | exact puc he | cases he
    · cases he
  case extract =>
    split at he
    · unfold iExtract at he
      split at he
      · split at he
        · split at he <;> first | exact pur he | cases he
        · cases he
      · cases he
    · cases he
  case nilCheck =>
    split at he
    · unfold iNil at he; split at he <;> first | exact pur he | cases he
    · cases he

theorem blind_igop {m : Mem} {nx : Nat} {r : OH} {fr : Fr} {o : Oper} {e : Eff} {cs : List Prop} (hb : blindB o = true) (he : igop P all o r fr m nx = some (e, cs)) : e.new = [] ∧ e.upd = [] := by
  unfold igop at he
  split at he
  · split at he
    · rename_i e' hi
      injection he with he; injection he with e1 _; subst e1
      exact blind_iop hb hi
    · cases he
  · split at he
    · rename_i tv b _ _
      cases hc : (tv == _) with
      | true =>
        rw [hc] at he
        simp only [cond_true] at he
        split at he
        · rename_i e' hi
          injection he with he; injection he with e1 _; subst e1
          exact blind_iop hb hi
        · cases he
      | false =>
        rw [hc] at he
        injection he with he; injection he with e1 _; subst e1
        exact ⟨rfl, rfl⟩
    · injection he with he; injection he with e1 _; subst e1
      exact ⟨rfl, rfl⟩
    · cases he

theorem iop_blind {m m' : Mem} {nx : Nat} {hh : Hint} {fr : Fr} {o : Oper} (hb : blindB o = true) : iop P fr m nx hh o = iop P fr m' nx hh o := by
  unfold iop
  unfold blindB at hb
  cases ho : o.op <;> rw [ho] at hb <;> first | rfl | (cases hb; done)

theorem igop_blind {fr fr' : Fr} {m m' : Mem} {nx : Nat} {o : Oper} {r : OH} {x : Eff × List Prop} (hb : blindB o = true) (hf : ∀ t ∈ looksO all o, lk t fr' = lk t fr) (h : igop P all o r fr m nx = some x) : igop P all o r fr' m' nx = some x := by
  have e : igop P all o r fr m nx = igop P all o r fr m' nx := by
    unfold igop
    rw [iop_blind (P := P) (m := m) (m' := m') hb]
  rw [e] at h
  exact igop_congr hf (fun _ _ hk => hk) h

theorem Heads.blind (H : Heads P N all st h Ds ers) {i : Nat} {d : Option Tmp} {e : Eff} (hi : ers[i]? = some (d, e)) (hb : blindB (all.getD i default) = true) : effM e = [] := by
  obtain ⟨hlt, o, ho, _, hg⟩ := H.er hi
  obtain ⟨o', ho', ⟨⟨r, nx, e1, cs, h1, h2, _⟩⟩⟩ := H.ok i hlt
  rw [hi] at h1
  injection h1 with h1
  injection h1 with _ h1
  subst h1
  rw [ho] at ho'
  injection ho' with ho'
  subst ho'
  rw [hg] at hb
  obtain ⟨h3, h4⟩ := blind_igop hb h2
  unfold effM
  rw [h3, h4]
  rfl

theorem effM_cases {k : Nat} {e : Eff} (hk : lk k (effM e) ≠ none) : lk k e.upd ≠ none ∨ lk k e.new ≠ none := by
  unfold effM at hk
  rw [lk_append] at hk
  by_cases h1 : lk k e.upd = none
  · right; intro h2; rw [h1, h2] at hk; exact hk rfl
  · exact .inl h1

/-- Who touches a key: it was there, or one of the operations up to this one made it. -/
theorem Heads.maker (H : Heads P N all st h Ds ers) {k : Nat} : ∀ (j : Nat) (d : Option Tmp) (e : Eff), ers[j]? = some (d, e) → lk k (effM e) ≠ none → lk k st.mem ≠ none ∨ ∃ j2 d2 e2, j2 ≤ j ∧ ers[j2]? = some (d2, e2) ∧ lk k e2.new ≠ none := by
  intro j
  induction j using Nat.strongRecOn with
  | _ j ih =>
    intro d e hj hk
    rcases effM_cases hk with hu | hn
    · obtain ⟨o', _, ⟨⟨r, nx, e1, cs, h1, _, _, _, hp, _⟩⟩⟩ := H.ok j (H.er hj).1
      rw [hj] at h1
      injection h1 with h1
      injection h1 with _ h1
      subst h1
      have := hp k hu
      rw [lk_selMem] at this
      cases hx : lastN (fun q => memN q (Ds.getD j [])) k 0 (ers.take j) with
      | none => rw [hx, Option.none_or] at this; exact .inl this
      | some c =>
        obtain ⟨q, d2, e2, g1, _, g3⟩ := lastN_some hx
        obtain ⟨hq, g1⟩ := getElem_take_er g1
        rcases ih q hq d2 e2 g1 (by rw [g3]; simp) with h0 | ⟨j2, d3, e3, h1, h2, h3⟩
        · exact .inl h0
        · exact .inr ⟨j2, d3, e3, by omega, h2, h3⟩
    · exact .inr ⟨j, d, e, Nat.le_refl _, hj, hn⟩

/-- Two that may change places. -/
theorem Heads.pair (H : Heads P N all st h Ds ers) {i j : Nat} {d d' : Option Tmp} {e e' : Eff} (hi : ers[i]? = some (d, e)) (hj : ers[j]? = some (d', e')) (hlt : j < i) (hn : j ∉ Ds.getD i []) : (e.upd = [] ∨ effM e' = []) ∧ (e'.upd = [] ∨ effM e = []) := by
  obtain ⟨o', ho', ⟨⟨r, nx, e1, cs, h1, _, _, _, _, _, hp⟩⟩⟩ := H.ok i (H.er hi).1
  rw [hi] at h1
  injection h1 with h1
  injection h1 with _ h1
  subst h1
  have hg : all.getD i default = o' := by rw [List.getD_eq_getElem?_getD, ho']; rfl
  rcases hp j d' e' hlt hj with h | ⟨h1, h2⟩
  · exact absurd h hn
  · exact ⟨h1.imp id fun hb => H.blind hj hb, h2.imp id fun hb => H.blind hi (by rw [hg]; exact hb)⟩

theorem effM_nil {k : Nat} {e : Eff} (h : effM e = []) : lk k (effM e) = none := by rw [h]; rfl

theorem lastN_at {sel : Nat → Bool} {k : Nat} {ch : Chunk} {v : Eff} : ∀ {l : List ER} {n i : Nat} {d : Option Tmp}, l[i]? = some (d, v) → sel (n + i) = true → lk k (effM v) = some ch → (∀ (j : Nat) (d : Option Tmp) (e : Eff), i < j → l[j]? = some (d, e) → lk k (effM e) ≠ none → sel (n + j) = false) → lastN sel k n l = some ch
  | [], n, i, _, h, _, _, _ => by simp at h
  | (d, e) :: r, n, 0, d', h, hs, hk, hn => by
    simp at h
    obtain ⟨rfl, rfl⟩ := h
    have hz : lastN sel k (n + 1) r = none := by
      cases hx : lastN sel k (n + 1) r with
      | none => rfl
      | some c =>
        obtain ⟨j, d2, e2, g1, g2, g3⟩ := lastN_some hx
        have := hn (j + 1) d2 e2 (by omega) (by simpa using g1) (by rw [g3]; simp)
        rw [show n + (j + 1) = n + 1 + j from by omega, g2] at this
        cases this
    simp only [lastN]
    have hs : sel n = true := by simpa using hs
    rw [hz, if_pos hs, hk]
    rfl
  | (d, e) :: r, n, i + 1, d', h, hs, hk, hn => by
    simp only [lastN]
    have := lastN_at (l := r) (n := n + 1) (i := i) (d := d') (by simpa using h) (by rwa [show n + (i + 1) = n + 1 + i from by omega] at hs) hk (fun j d e hlt hj hd => by
      have := hn (j + 1) d e (by omega) (by simpa using hj) hd
      rwa [show n + (j + 1) = n + 1 + j from by omega] at this)
    rw [this]
    rfl

/-- Of those that touch a key the last one that is listed tells. -/
theorem lastN_last {sel : Nat → Bool} {k : Nat} {ch : Chunk} : ∀ {l : List ER} {n : Nat}, lastN sel k n l = some ch → ∃ (j : Nat) (d : Option Tmp) (e : Eff), l[j]? = some (d, e) ∧ sel (n + j) = true ∧ lk k (effM e) = some ch ∧ ∀ (q : Nat) (d : Option Tmp) (e : Eff), j < q → l[q]? = some (d, e) → lk k (effM e) ≠ none → sel (n + q) = false
  | [], _, h => by simp [lastN] at h
  | (d, e) :: r, n, h => by
    simp only [lastN] at h
    cases hx : lastN sel k (n + 1) r with
    | some c =>
      rw [hx] at h
      have h : c = ch := by simpa using h
      subst h
      obtain ⟨j, d', e', h1, h2, h3, h4⟩ := lastN_last hx
      refine ⟨j + 1, d', e', by simpa using h1, by rwa [show n + (j + 1) = n + 1 + j from by omega], h3, fun q d2 e2 hq hq2 hk => ?_⟩
      cases q with
      | zero => omega
      | succ q =>
        have := h4 q d2 e2 (by omega) (by simpa using hq2) hk
        rwa [show n + (q + 1) = n + 1 + q from by omega]
    | none =>
      rw [hx] at h
      simp only [Option.none_or] at h
      split at h
      · rename_i hs
        refine ⟨0, d, e, rfl, by simpa using hs, h, fun q d2 e2 hq hq2 hk => ?_⟩
        cases q with
        | zero => omega
        | succ q =>
          cases hsq : sel (n + (q + 1)) with
          | false => rfl
          | true => exact absurd (lastN_none hx q d2 e2 (by simpa using hq2) (by rwa [show n + 1 + q = n + (q + 1) from by omega])) hk
      · cases h

/-- The state when those are done that are listed. -/
def headSt (st : St) (ers : List ER) (sel : Nat → Bool) (nx : Nat) : St := ⟨selFr sel 0 ers st.fr, selMem sel 0 ers st.mem, nx⟩

/-- One of the first operations can be carried out where those are done that it needs. -/
theorem Heads.step (H : Heads P N all st h Ds ers) {sel : Nat → Bool} {i : Nat} {o : Oper} (hi : i < h) (ho : all[i]? = some o) (hn : sel i = false) (hd : ∀ j ∈ Ds.getD i [], sel j = true) (hc : ∀ j, j < h → sel j = true → ∀ k ∈ Ds.getD j [], sel k = true) :
    ∃ (r : OH) (nx : Nat) (e : Eff) (cs : List Prop), igop P all o r (selFr sel 0 ers st.fr) (selMem sel 0 ers st.mem) nx = some (e, cs) ∧ AllP cs ∧ dOK N o.dst = true ∧ Fresh (selMem sel 0 ers st.mem) e.new ∧
      (∀ t, lk t (selFr (fun j => sel j || Nat.beq j i) 0 ers st.fr) = lk t (match o.dst with | some t' => (t', e.val) :: selFr sel 0 ers st.fr | none => selFr sel 0 ers st.fr)) ∧
      (∀ k, lk k (selMem (fun j => sel j || Nat.beq j i) 0 ers st.mem) = lk k (e.upd ++ e.new ++ selMem sel 0 ers st.mem)) := by
  obtain ⟨o', ho', ⟨⟨r, nx, e, cs, h1, h2, h3, h4, h5, h6, h7⟩⟩⟩ := H.ok i hi
  rw [ho] at ho'
  injection ho' with ho'
  subst ho'
  have hnb : ∀ j, j ≠ i → Nat.beq j i = false := fun j hj => by
    cases hb : Nat.beq j i with
    | false => rfl
    | true => exact absurd (beq_of hb) hj
  have hge : ∀ j, i ≤ j → memN (0 + j) (Ds.getD i []) = false := fun j hj => by
    cases hb : memN (0 + j) (Ds.getD i []) with
    | false => rfl
    | true =>
      have := H.lt i _ o ho (memN_iff.1 hb)
      omega
  -- which of the others differ
  have hpair : ∀ j d e', ers[j]? = some (d, e') → j ≠ i → (sel j = memN j (Ds.getD i [])) ∨ ((∀ t, d = some t → t ∉ looksO all o) ∧ (∀ t, d = some t → o.dst ≠ some t)) := by
    intro j d e' hj hne
    obtain ⟨hjh, oj, hoj, hdj, hgj⟩ := H.er hj
    rcases Nat.lt_or_ge j i with hlt | hgt
    · rcases (H.deps i o ho).2.2 j hlt with hm | ⟨_, hcf⟩
      · left; rw [hd j hm, memN_iff.2 hm]
      · right
        rw [hgj] at hcf
        have := conflict_look hcf
        subst hdj
        exact ⟨this.1, this.2.1⟩
    · rcases (H.deps j oj hoj).2.2 i (by omega) with hm | ⟨_, hcf⟩
      · left
        have e1 := hge j hgt
        rw [Nat.zero_add] at e1
        rw [e1]
        cases hs : sel j with
        | false => rfl
        | true => rw [hc j hjh hs i hm] at hn; cases hn
      · right
        rw [show all.getD i default = o from by rw [List.getD_eq_getElem?_getD, ho]; rfl] at hcf
        have := conflict_look hcf
        subst hdj
        exact ⟨this.2.2, fun t ht he => this.2.1 t he ht⟩
  have hlook : ∀ t ∈ looksO all o, lk t (selFr sel 0 ers st.fr) = lk t (selFr (fun j => memN j (Ds.getD i [])) 0 (ers.take i) st.fr) := by
    intro t ht
    rw [lk_selFr, lk_selFr, lastW_take hge]
    congr 1
    refine lastW_congr fun j d e' hj hdt => ?_
    rw [Nat.zero_add]
    by_cases hji : j = i
    · subst hji
      have e1 := hge j (Nat.le_refl _)
      rw [Nat.zero_add] at e1
      rw [hn, e1]
    · rcases hpair j d e' hj hji with hp | ⟨hp, _⟩
      · exact hp
      · exact absurd ht (hp t hdt)
  have hgi : all.getD i default = o := by rw [List.getD_eq_getElem?_getD, ho]; rfl
  -- of the others, those that are listed and not waited for leave what is there, or this one is blind
  have hextra : ∀ j d e', ers[j]? = some (d, e') → j ≠ i → sel j = true → memN j (Ds.getD i []) = false → (e'.upd = [] ∨ effM e = []) ∧ (e.upd = [] ∨ effM e' = []) := by
    intro j d e' hj hne hs hm
    have hjh := (H.er hj).1
    rcases Nat.lt_or_ge j i with hlt | hge'
    · have := H.pair h1 hj hlt (fun hx => by rw [memN_iff.2 hx] at hm; cases hm)
      exact ⟨this.2, this.1⟩
    · have hni : i ∉ Ds.getD j [] := fun hx => by rw [hc j hjh hs i hx] at hn; cases hn
      exact H.pair hj h1 (by omega) hni
  have hmm : blindB o = false → MM (selMem (fun j => memN j (Ds.getD i [])) 0 (ers.take i) st.mem) (selMem sel 0 ers st.mem) := by
    intro hbl k ch hk
    -- none of the extra ones changes what was there
    have hpairx : ∀ j d e', ers[j]? = some (d, e') → j ≠ i → sel j = true → memN j (Ds.getD i []) = false → e'.upd = [] := by
      intro j d e' hj hne hs hm
      obtain ⟨hjh, oj, hoj, _, _⟩ := H.er hj
      rcases Nat.lt_or_ge j i with hlt | hge'
      · rcases h7 j d e' hlt hj with hx | hx
        · rw [memN_iff.2 hx] at hm; cases hm
        · rcases hx.2 with hx | hx
          · exact hx
          · rw [hbl] at hx; cases hx
      · have hni : i ∉ Ds.getD j [] := fun hx => by rw [hc j hjh hs i hx] at hn; cases hn
        obtain ⟨oj', _, ⟨⟨r2, nx2, e2, cs2, p1, _, _, _, _, _, p7⟩⟩⟩ := H.ok j hjh
        rw [hj] at p1
        injection p1 with p1
        injection p1 with _ p1
        subst p1
        rcases p7 i o.dst e (by omega) h1 with hx | hx
        · exact absurd hx hni
        · rcases hx.1 with hx | hx
          · exact hx
          · rw [hgi, hbl] at hx; cases hx
    rw [lk_selMem] at hk ⊢
    cases hx : lastN (fun j => memN j (Ds.getD i [])) k 0 (ers.take i) with
    | some c =>
      rw [hx] at hk
      have hk : c = ch := by simpa using hk
      subst hk
      obtain ⟨j, d, e', g1, g2, g3, g4⟩ := lastN_last hx
      obtain ⟨hji, g1⟩ := getElem_take_er g1
      rw [Nat.zero_add] at g2
      rw [lastN_at (i := j) (d := d) (v := e') g1 (by rw [Nat.zero_add]; exact hd j (memN_iff.1 g2)) g3 (fun q d2 e2 hq hq2 hk2 => by
        rw [Nat.zero_add]
        cases hs : sel q with
        | false => rfl
        | true =>
          exfalso
          have hqi : q ≠ i := by rintro rfl; rw [hs] at hn; cases hn
          cases hm : memN q (Ds.getD i []) with
          | true =>
            have hlt := H.lt i q o ho (memN_iff.1 hm)
            have := g4 q d2 e2 hq (by rw [List.getElem?_take, if_pos hlt]; exact hq2) hk2
            rw [Nat.zero_add, hm] at this
            cases this
          | false =>
            have hu := hpairx q d2 e2 hq2 hqi hs hm
            have hnew : lk k e2.new ≠ none := by
              rcases effM_cases hk2 with hx | hx
              · rw [hu] at hx; exact absurd rfl hx
              · exact hx
            rcases H.maker j d e' g1 (by rw [g3]; simp) with h0 | ⟨j2, d3, e3, p1, p2, p3⟩
            · exact h0 (H.notold hq2 hnew)
            · have := H.uniq p2 hq2 p3 hnew
              omega)]
      rfl
    | none =>
      rw [hx, Option.none_or] at hk
      cases hy : lastN sel k 0 ers with
      | none => rw [Option.none_or]; exact hk
      | some c =>
        exfalso
        obtain ⟨j, d, e', g1, g2, g3⟩ := lastN_some hy
        rw [Nat.zero_add] at g2
        have hji : j ≠ i := by rintro rfl; rw [g2] at hn; cases hn
        cases hm : memN j (Ds.getD i []) with
        | true =>
          have hlt := H.lt i j o ho (memN_iff.1 hm)
          have := lastN_none hx j d e' (by rw [List.getElem?_take, if_pos hlt]; exact g1) (by rw [Nat.zero_add]; exact hm)
          rw [g3] at this; cases this
        | false =>
          have hu := hpairx j d e' g1 hji g2 hm
          have hnew : lk k e'.new ≠ none := by
            rcases effM_cases (k := k) (e := e') (by rw [g3]; simp) with hx | hx
            · rw [hu] at hx; exact absurd rfl hx
            · exact hx
          rw [H.notold g1 hnew] at hk
          cases hk
  have hgo : igop P all o r (selFr sel 0 ers st.fr) (selMem sel 0 ers st.mem) nx = some (e, cs) := by
    cases hbl : blindB o with
    | false => exact igop_congr hlook (hmm hbl) h2
    | true => exact igop_blind hbl hlook h2
  refine ⟨r, nx, e, cs, hgo, h3, h4, fun p hp => ?_, fun t => ?_, fun k => ?_⟩
  · have hpk : lk p.1 e.new ≠ none := lk_ne_none hp
    rw [lk_selMem, H.notold h1 hpk, Option.or_none]
    cases hx : lastN sel p.1 0 ers with
    | none => rfl
    | some c =>
      exfalso
      obtain ⟨j, d, e', g1, g2, g3⟩ := lastN_some hx
      rw [Nat.zero_add] at g2
      have hji : j ≠ i := by rintro rfl; rw [g2] at hn; cases hn
      have hen : effM e ≠ [] := fun hx => by
        have := effM_new (effM_nil (k := p.1) hx)
        exact hpk this
      rcases effM_cases (k := p.1) (e := e') (by rw [g3]; simp) with hu | hnew
      · rcases H.maker j d e' g1 (by rw [g3]; simp) with h0 | ⟨j2, d3, e3, p1, p2, p3⟩
        · exact h0 (H.notold h1 hpk)
        · have := H.uniq p2 h1 p3 hpk
          subst this
          have hm : memN j (Ds.getD j2 []) = false := by
            cases hb : memN j (Ds.getD j2 []) with
            | false => rfl
            | true => have := H.lt j2 j o ho (memN_iff.1 hb); omega
          have := (hextra j d e' g1 hji g2 hm).1.resolve_right hen
          rw [this] at hu
          exact hu rfl
      · exact hji (H.uniq g1 h1 hnew hpk)
  · have hsame : (∀ t', o.dst = some t' → t ≠ t') → lk t (selFr (fun j => sel j || Nat.beq j i) 0 ers st.fr) = lk t (selFr sel 0 ers st.fr) := by
      intro hne
      rw [lk_selFr, lk_selFr]
      congr 1
      refine lastW_congr fun j d e' hj hdt => ?_
      rw [Nat.zero_add]
      have hji : j ≠ i := by
        rintro rfl
        rw [h1] at hj
        injection hj with hj
        injection hj with hj _
        exact hne t (hj.trans hdt) rfl
      rw [hnb j hji, Bool.or_false]
    cases hdst : o.dst with
    | none => exact hsame fun t' ht' => by rw [hdst] at ht'; cases ht'
    | some t' =>
      simp only
      rw [lk_cons]
      by_cases htt : t = t'
      · subst htt
        rw [if_pos rfl, lk_selFr]
        rw [lastW_at (i := i) (v := e) (by rw [h1, hdst]) (by rw [Nat.zero_add]; simp) (fun j d e' hij hj hdt => by
          rw [Nat.zero_add, hnb j (by omega), Bool.or_false]
          rcases hpair j d e' hj (by omega) with hp | ⟨_, hp⟩
          · rw [hp]
            have := hge j (by omega)
            rwa [Nat.zero_add] at this
          · exact absurd hdst (hp t hdt))]
        rfl
      · rw [if_neg htt]
        exact hsame fun t'' ht'' => by rw [hdst] at ht''; injection ht'' with ht''; subst ht''; exact htt
  · show _ = lk k (effM e ++ selMem sel 0 ers st.mem)
    rw [lk_append, lk_selMem, lk_selMem, ← Option.or_assoc]
    congr 1
    cases hk : lk k (effM e) with
    | some c =>
      rw [lastN_at (i := i) (d := o.dst) (v := e) h1 (by simp) hk (fun j d e' hij hj hkj => by
        rw [Nat.zero_add, hnb j (by omega), Bool.or_false]
        cases hs : sel j with
        | false => rfl
        | true =>
          exfalso
          have hm : memN j (Ds.getD i []) = false := by
            have := hge j (by omega)
            rwa [Nat.zero_add] at this
          have hji : j ≠ i := by omega
          obtain ⟨q1, q2⟩ := hextra j d e' hj hji hs hm
          have hen : effM e ≠ [] := fun hx => by rw [hx] at hk; cases hk
          have hen' : effM e' ≠ [] := fun hx => hkj (effM_nil hx)
          have u1 := q1.resolve_right hen
          have u2 := q2.resolve_right hen'
          have n1 : lk k e.new ≠ none := by
            rcases effM_cases (k := k) (e := e) (by rw [hk]; simp) with hx | hx
            · rw [u2] at hx; exact absurd rfl hx
            · exact hx
          have n2 : lk k e'.new ≠ none := by
            rcases effM_cases hkj with hx | hx
            · rw [u1] at hx; exact absurd rfl hx
            · exact hx
          exact hji (H.uniq hj h1 n2 n1))]
      rfl
    | none =>
      rw [Option.none_or]
      refine lastN_congr fun j d e' hj hkj => ?_
      rw [Nat.zero_add]
      have hji : j ≠ i := by
        rintro rfl
        rw [h1] at hj
        injection hj with hj
        injection hj with _ hj
        subst hj
        exact hkj hk
      rw [hnb j hji, Bool.or_false]

theorem wp_op {ops : Array Oper} {Q : Exit → Act → World → Prop} {K : Act → World → Prop} {i : Nat} {o : Oper} (ho : ops[i]? = some o) (h : if Region.wanted o (yielded ops a.tmps) then o.wp P a w K Q else K (a.put o.dst undef) w) : wpOp P ops Q i K a w := by
  unfold wpOp
  rw [ho]
  simp only
  by_cases hw : Region.wanted o (yielded ops a.tmps) = true
  · rw [if_pos hw] at h ⊢; exact .inl h
  · rw [if_neg hw] at h ⊢; exact h

/-- Which are listed. -/
def lsel (listed : Array Bool) (j : Nat) : Bool := listed.getD j false

theorem ready_spec {ops : List Oper} {listed : Array Bool} (hs : listed.size = ops.length) {i : Nat} (hi : i ∈ Region.ready .any ops.toArray listed) :
    ∃ o, ops[i]? = some o ∧ lsel listed i = false ∧ ∀ d ∈ directs o, lsel listed d = true := by
  obtain ⟨h0, o, ho, hall⟩ := mem_ready.1 hi
  have ho : ops[i]? = some o := by simpa using ho
  have hlt : i < listed.size := by rw [hs]; exact (List.getElem?_eq_some_iff.1 ho).1
  refine ⟨o, ho, ?_, fun d hd => ?_⟩
  · unfold lsel
    simp [Array.getD, hlt] at h0 ⊢
    exact h0
  · unfold directs at hd
    obtain ⟨e, he, rfl⟩ := List.mem_map.1 hd
    obtain ⟨he, hb⟩ := List.mem_filter.1 he
    exact hall e (by simpa using he) hb

theorem ready_nil {ops : List Oper} {listed : Array Bool} (hs : listed.size = ops.length) (hd : ∀ i o, ops[i]? = some o → ∀ d ∈ directs o, d < i) (hr : Region.ready .any ops.toArray listed = []) : ∀ i, i < ops.length → lsel listed i = true := by
  intro i
  induction i using Nat.strongRecOn with
  | _ i ih =>
    intro hi
    cases hl : lsel listed i with
    | true => rfl
    | false =>
      have : i ∈ Region.ready .any ops.toArray listed := by
        refine mem_ready.2 ⟨?_, ops[i], by simp [hi], fun e he hb => ?_⟩
        · unfold lsel at hl
          have hlt : i < listed.size := by omega
          simp [Array.getD, hlt] at hl ⊢
          exact hl
        · have hdi : e.on ∈ directs ops[i] := List.mem_map.2 ⟨e, List.mem_filter.2 ⟨by simpa using he, hb⟩, rfl⟩
          have hlt := hd i ops[i] (List.getElem?_eq_getElem hi) e.on hdi
          exact ih e.on hlt (by omega)
      rw [hr] at this
      simp at this

theorem lsel_set {listed : Array Bool} {i j : Nat} (hi : i < listed.size) : lsel (listed.setIfInBounds i true) j = (lsel listed j || Nat.beq j i) := by
  unfold lsel
  by_cases hij : j = i
  · subst hij
    have : Nat.beq j j = true := Nat.beq_refl j
    rw [this]
    simp [hi]
  · have : Nat.beq j i = false := by
      cases hb : Nat.beq j i with
      | false => rfl
      | true => exact absurd (beq_of hb) hij
    rw [this, getD_set_ne false (fun e => hij e.symm)]
    simp

/-- How many are not listed. -/
def todo (listed : Array Bool) (n : Nat) : Nat := ((List.range n).filter fun j => !lsel listed j).length

theorem todo_set {listed : Array Bool} {i n : Nat} (hi : i < listed.size) (hn : i < n) (hl : lsel listed i = false) : todo (listed.setIfInBounds i true) n + 1 ≤ todo listed n := by
  unfold todo
  have aux : ∀ l : List Nat, l.Nodup → i ∈ l → (l.filter fun j => !lsel (listed.setIfInBounds i true) j).length + 1 ≤ (l.filter fun j => !lsel listed j).length := by
    intro l
    induction l with
    | nil => intro _ h; simp at h
    | cons x l ih =>
      intro hnd hm
      simp only [List.nodup_cons] at hnd
      by_cases hx : x = i
      · subst hx
        have e1 : (!lsel (listed.setIfInBounds x true) x) = false := by rw [lsel_set hi]; simp
        have e2 : (!lsel listed x) = true := by rw [hl]; rfl
        rw [List.filter_cons_of_neg (by simp [e1]), List.filter_cons_of_pos (by simp [hl])]
        simp only [List.length_cons, Nat.add_le_add_iff_right]
        refine Nat.le_of_eq ?_
        congr 1
        refine List.filter_congr fun y hy => ?_
        rw [lsel_set hi]
        have : Nat.beq y x = false := by
          cases hb : Nat.beq y x with
          | false => rfl
          | true => have := beq_of hb; subst this; exact absurd hy hnd.1
        rw [this, Bool.or_false]
      · have hm : i ∈ l := by
          rcases List.mem_cons.1 hm with e | hm
          · exact absurd e.symm hx
          · exact hm
        have := ih hnd.2 hm
        have e : lsel (listed.setIfInBounds i true) x = lsel listed x := by
          rw [lsel_set hi]
          have : Nat.beq x i = false := by
            cases hb : Nat.beq x i with
            | false => rfl
            | true => exact absurd (beq_of hb) hx
          rw [this, Bool.or_false]
        cases hs : lsel listed x with
        | true =>
          rw [hs] at e
          rw [List.filter_cons_of_neg (by simp [e]), List.filter_cons_of_neg (by simp [hs])]
          exact this
        | false =>
          rw [hs] at e
          rw [List.filter_cons_of_pos (by simp [e]), List.filter_cons_of_pos (by simp [hs])]
          simp only [List.length_cons]
          omega
  exact aux _ List.nodup_range (List.mem_range.2 hn)

/-- The last operations, which wait for all before them. -/
theorem tails_sound {Q : Exit → Act → World → Prop} {st' : St} (hd : ∀ i o, all[i]? = some o → (∀ d ∈ directs o, d < i) ∧ (∀ j ∈ Ds.getD i [], j ∈ directs o ∨ ∃ d ∈ directs o, j ∈ Ds.getD d []) ∧ (∀ j, j < i → h ≤ i → j ∈ Ds.getD i [])) :
    ∀ (fuel : Nat) {listed : Array Bool} {i : Nat} {rs : List OH} {st : St} {cs : List Prop} {g : GM} {a : Act} {w : World}, listed.size = all.length → h ≤ i → (∀ j, j < all.length → (lsel listed j = true ↔ j < i)) → i ≤ all.length → todo listed all.length ≤ fuel →
      Sim cx g st a w → ireg cx.P cx.N all (all.drop i) rs st = some (st', cs) → AllP cs → (∀ g' a' w', Sim cx g' st' a' w' → Q .normal a' w') → wpAny cx.P .any all.toArray Q fuel listed a w := by
  intro fuel
  have hend : ∀ {listed : Array Bool} {i : Nat} {rs : List OH} {st : St} {cs : List Prop} {g : GM} {a : Act} {w : World}, (∀ j, j < all.length → (lsel listed j = true ↔ j < i)) → i ≤ all.length → (∀ j, j < all.length → lsel listed j = true) → Sim cx g st a w → ireg cx.P cx.N all (all.drop i) rs st = some (st', cs) → (∀ g' a' w', Sim cx g' st' a' w' → Q .normal a' w') → Q .normal a w := by
    intro listed i rs st cs g a w hl hi hal hs he hq
    have hdrop : all.drop i = [] := by
      rcases Nat.lt_or_ge i all.length with hlt | hge
      · have := (hl i hlt).1 (hal i hlt); omega
      · exact List.drop_eq_nil_of_le hge
    rw [hdrop] at he
    have he : some (st, []) = some (st', cs) := by cases rs <;> exact he
    injection he with he
    injection he with e1 e2
    subst e1
    exact hq _ _ _ hs
  induction fuel with
  | zero =>
    intro listed i rs st cs g a w hsz hhi hl hi hto hs he hc hq
    have hal : ∀ j, j < all.length → lsel listed j = true := fun j hj => by
      cases hx : lsel listed j with
      | true => rfl
      | false =>
        have : j ∈ (List.range all.length).filter fun j => !lsel listed j := List.mem_filter.2 ⟨List.mem_range.2 hj, by rw [hx]; rfl⟩
        have := List.length_pos_of_mem this
        unfold todo at hto
        omega
    refine ⟨?_, hend hl hi hal hs he hq⟩
    cases hr : Region.ready .any all.toArray listed with
    | nil => rfl
    | cons x xs =>
      obtain ⟨o, ho, h1, _⟩ := ready_spec hsz (i := x) (by rw [hr]; simp)
      rw [hal x (List.getElem?_eq_some_iff.1 ho).1] at h1
      cases h1
  | succ fuel ih =>
    intro listed i rs st cs g a w hsz hhi hl hi hto hs he hc hq
    refine ⟨fun hr => hend hl hi (ready_nil hsz (fun i o ho => (hd i o ho).1) hr) hs he hq, fun j hj => ?_⟩
    obtain ⟨o, ho, h1, h2⟩ := ready_spec hsz hj
    have hjl : j < all.length := (List.getElem?_eq_some_iff.1 ho).1
    have hji : j = i := by
      have hge : i ≤ j := by
        rcases Nat.lt_or_ge j i with hlt | hge
        · rw [(hl j hjl).2 hlt] at h1; cases h1
        · exact hge
      rcases Nat.lt_or_ge i j with hlt | hle
      · have hm := (hd j o ho).2.2 i hlt (by omega)
        -- everything that it waits for is listed
        have hcl : ∀ (n : Nat) (o : Oper), all[n]? = some o → (∀ d ∈ directs o, lsel listed d = true) → ∀ k ∈ Ds.getD n [], lsel listed k = true := by
          intro n
          induction n using Nat.strongRecOn with
          | _ n ihn =>
            intro o ho hdl k hk
            have hlt : n < all.length := (List.getElem?_eq_some_iff.1 ho).1
            rcases (hd n o ho).2.1 k hk with hkd | ⟨d, hkd, hkk⟩
            · exact hdl k hkd
            · have hdn := (hd n o ho).1 d hkd
              have hdlt : d < all.length := by omega
              refine ihn d hdn all[d] (List.getElem?_eq_getElem hdlt) (fun d' hd' => ?_) k hkk
              have hdi := (hl d hdlt).1 (hdl d hkd)
              have := (hd d all[d] (List.getElem?_eq_getElem hdlt)).1 d' hd'
              exact (hl d' (by omega)).2 (by omega)
        have := (hl i (by omega)).1 (hcl j o ho h2 i hm)
        omega
      · omega
    subst hji
    have hdrop : all.drop j = o :: all.drop (j + 1) := by
      rw [List.drop_eq_getElem_cons hjl]
      congr 1
      exact (List.getElem?_eq_some_iff.1 ho).2
    rw [hdrop] at he
    cases rs with
    | nil => cases he
    | cons r rs =>
      simp only [ireg] at he
      split at he
      · rename_i st1 c1 hst
        split at he
        · rename_i st2 c2 hrest
          injection he with he
          injection he with e1 e2
          subst e1
          subst e2
          obtain ⟨hc1, hc2⟩ := hc.append
          refine wp_op (by simpa using ho) (istep_sound hs hst hc1 fun g' a' w' hs' => ?_)
          refine ih (i := j + 1) (by simp [hsz]) (by omega) (fun k hk => ?_) (by omega) ?_ hs' hrest hc2 hq
          · rw [lsel_set (by omega)]
            simp only [Bool.or_eq_true]
            rw [hl k hk]
            constructor
            · rintro (hk' | hk')
              · omega
              · have := beq_of hk'; omega
            · intro hk'
              rcases Nat.lt_or_ge k j with hlt | hge
              · exact .inl hlt
              · right
                have : k = j := by omega
                subst this
                exact Nat.beq_refl _
          · have := todo_set (listed := listed) (i := j) (n := all.length) (by omega) hjl h1
            omega
        · cases he
      · cases he

theorem selFr_congr {sel sel' : Nat → Bool} (H : ∀ j, j < ers.length → sel j = sel' j) (fr : Fr) (t : Tmp) : lk t (selFr sel 0 ers fr) = lk t (selFr sel' 0 ers fr) := by
  rw [lk_selFr, lk_selFr]
  congr 1
  exact lastW_congr fun j d e hj _ => by
    rw [Nat.zero_add]
    exact H j (List.getElem?_eq_some_iff.1 hj).1

theorem selMem_congr {sel sel' : Nat → Bool} (H : ∀ j, j < ers.length → sel j = sel' j) (m : Mem) (k : Nat) : lk k (selMem sel 0 ers m) = lk k (selMem sel' 0 ers m) := by
  rw [lk_selMem, lk_selMem]
  congr 1
  exact lastN_congr fun j d e hj _ => by
    rw [Nat.zero_add]
    exact H j (List.getElem?_eq_some_iff.1 hj).1

/-- The first operations, in any order. -/
theorem heads_sound {Q : Exit → Act → World → Prop} {st st' : St} {nx0 : Nat} {rs : List OH} {cs : List Prop} (H : Heads cx.P cx.N all st h Ds ers) (hh : h ≤ all.length) (he : ireg cx.P cx.N all (all.drop h) rs (headSt st ers (fun _ => true) nx0) = some (st', cs)) (hc : AllP cs) (hq : ∀ g' a' w', Sim cx g' st' a' w' → Q .normal a' w') :
    ∀ (fuel : Nat) {listed : Array Bool} {nx : Nat} {g : GM} {a : Act} {w : World}, listed.size = all.length → (∀ j, lsel listed j = true → j < h) → (∀ j, j < h → lsel listed j = true → ∀ k ∈ Ds.getD j [], lsel listed k = true) → todo listed all.length ≤ fuel →
      Sim cx g (headSt st ers (lsel listed) nx) a w → wpAny cx.P .any all.toArray Q fuel listed a w := by
  intro fuel
  have hend : ∀ (fuel : Nat) {listed : Array Bool} {nx : Nat} {g : GM} {a : Act} {w : World}, listed.size = all.length → (∀ j, lsel listed j = true → j < h) → todo listed all.length ≤ fuel → (∀ j, j < h → lsel listed j = true) → Sim cx g (headSt st ers (lsel listed) nx) a w → wpAny cx.P .any all.toArray Q fuel listed a w := by
    intro fuel listed nx g a w hsz hl hto hal hs
    have hs' : Sim cx g (headSt st ers (fun _ => true) nx0) a w := hs.congr (fun t v hv => by
      rw [← hv]
      exact selFr_congr (sel' := fun _ => true) (fun j hj => hal j (by rw [← H.len]; exact hj)) _ _) (fun k => (selMem_congr (sel' := fun _ => true) (fun j hj => hal j (by rw [← H.len]; exact hj)) _ _).symm)
    exact tails_sound (h := h) (Ds := Ds) (fun i o ho => ⟨(H.deps i o ho).1, (H.deps i o ho).2.1, fun j hj hi => ((H.deps i o ho).2.2 j hj).resolve_right fun x => by omega⟩) fuel hsz (Nat.le_refl h) (fun j hj => ⟨hl j, hal j⟩) hh hto hs' he hc hq
  induction fuel with
  | zero =>
    intro listed nx g a w hsz hl hcl hto hs
    refine hend 0 hsz hl hto (fun j hj => ?_) hs
    cases hx : lsel listed j with
    | true => rfl
    | false =>
      have : j ∈ (List.range all.length).filter fun j => !lsel listed j := List.mem_filter.2 ⟨List.mem_range.2 (by omega), by rw [hx]; rfl⟩
      have := List.length_pos_of_mem this
      unfold todo at hto
      omega
  | succ fuel ih =>
    intro listed nx g a w hsz hl hcl hto hs
    by_cases hal : ∀ j, j < h → lsel listed j = true
    · exact hend (fuel + 1) hsz hl hto hal hs
    refine ⟨fun hr => absurd (fun j hj => ready_nil hsz (fun i o ho => (H.deps i o ho).1) hr j (by omega)) hal, fun i hi => ?_⟩
    obtain ⟨o, ho, h1, h2⟩ := ready_spec hsz hi
    have hil : i < all.length := (List.getElem?_eq_some_iff.1 ho).1
    have hdi : ∀ j ∈ Ds.getD i [], lsel listed j = true := fun j hj => by
      rcases (H.deps i o ho).2.1 j hj with hd | ⟨d, hd, hj⟩
      · exact h2 j hd
      · exact hcl d (hl d (h2 d hd)) (h2 d hd) j hj
    have hih : i < h := by
      rcases Nat.lt_or_ge i h with hlt | hge
      · exact hlt
      · exact absurd (fun j hj => hdi j (((H.deps i o ho).2.2 j (by omega)).resolve_right fun x => by omega)) hal
    obtain ⟨r, nx', e, cs', g1, g2, g3, g5, g6, g7⟩ := H.step hih ho h1 hdi hcl
    have hsel : lsel (listed.setIfInBounds i true) = fun j => lsel listed j || Nat.beq j i := funext fun j => lsel_set (by omega)
    have hs1 : Sim cx g ⟨selFr (lsel listed) 0 ers st.fr, selMem (lsel listed) 0 ers st.mem, nx'⟩ a w := hs.congr (fun _ _ hv => hv) (fun _ => rfl)
    refine wp_op (by simpa using ho) (igop_sound hs1 g1 g5 g3 g2 fun g' a' w' hs' => ?_)
    refine ih (nx := 0) (by simp [hsz]) (fun j hj => ?_) (fun j hj hlj k hk => ?_) ?_ (hs'.congr (fun t v hv => ?_) fun k => ?_)
    · rw [hsel] at hj
      simp only [Bool.or_eq_true] at hj
      rcases hj with hj | hj
      · exact hl j hj
      · rw [beq_of hj]; exact hih
    · rw [hsel] at hlj ⊢
      simp only [Bool.or_eq_true] at hlj ⊢
      rcases hlj with hlj | hlj
      · exact .inl (hcl j hj hlj k hk)
      · have := beq_of hlj
        subst this
        exact .inl (hdi k hk)
    · have := todo_set (listed := listed) (i := i) (n := all.length) (by omega) hil h1
      omega
    · change lk t (selFr (lsel (listed.setIfInBounds i true)) 0 ers st.fr) = some v at hv
      rw [hsel, g6] at hv
      cases hdst : o.dst with
      | none => rw [hdst] at hv; exact hv
      | some t' => rw [hdst] at hv; exact hv
    · change lk k (selMem (lsel (listed.setIfInBounds i true)) 0 ers st.mem) = _
      rw [hsel, g7]
      unfold St.app
      cases o.dst <;> rfl

/-- A region whose order is drawn. -/
theorem HT.draw {Q : Exit → St → Prop} {id h : Nat} {ops : List Oper} {hrs : List HR} {tds : List (List Nat)} {rs : List OH} {ers : List ER} {st st' : St} {cs cs' : List Prop} {nx : Nat} (hm : cx.P.follows .mixedOrders = true)
    (hn : (hrs.length == h && Nat.ble h ops.length) = true) (hok : okFrom ops (hrs.map HR.D ++ tds) h 0 ops = true) (hh : ihead cx.P cx.N ops st (ops.take h) hrs [] st.nx = some (ers, cs, nx))
    (he : ireg cx.P cx.N ops (ops.drop h) rs (headSt st ers (fun _ => true) nx) = some (st', cs')) (hc : AllP cs) (hc' : AllP cs') (hq : Q .normal st') : HT cx st (.region id ops.toArray true) Q := by
  intro g a w hs
  simp only [Bool.and_eq_true, beq_iff_eq] at hn
  obtain ⟨hn, hl⟩ := hn
  have hl : h ≤ ops.length := Nat.le_of_ble_eq_true hl
  obtain ⟨⟨l, e1, e2⟩, hsp⟩ := ihead_spec hh hc
  have hlen : ers.length = h := by rw [e1]; simp [e2, hl]
  refine wp_region_any hm ?_
  have hDs : ∀ i, i < h → (hrs.map HR.D ++ tds).getD i [] = (hrs.map HR.D).getD i [] := fun i hi => by
    rw [List.getD_eq_getElem?_getD, List.getD_eq_getElem?_getD, List.getElem?_append_left (by simp [hn, hi])]
  have H : Heads cx.P cx.N ops st h (hrs.map HR.D ++ tds) ers := by
    refine ⟨hlen, fun i hi => ?_, fun i o ho => ?_⟩
    · have ho : ops[i]? = some ops[i] := List.getElem?_eq_getElem (by omega)
      refine ⟨ops[i], ho, ?_⟩
      have := hsp i ops[i] (by rw [List.getElem?_take, if_pos hi]; exact ho)
      rw [hDs i hi]
      simpa using this
    · have := okFrom_spec hok i o ho
      simpa using this
  have hz : ∀ j, lsel (Array.replicate ops.length false) j = false := fun j => by
    unfold lsel
    rw [Array.getD_eq_getD_getElem?]
    by_cases hj : j < ops.length
    · simp [hj]
    · rw [Array.getElem?_eq_none (by simpa using Nat.le_of_not_lt hj)]; rfl
  have hto : todo (Array.replicate ops.length false) ops.length ≤ ops.length := by
    unfold todo
    exact Nat.le_trans (List.length_filter_le _ _) (by simp)
  have hs0 : Sim cx g (headSt st ers (lsel (Array.replicate ops.length false)) 0) a w.drew := by
    have hz' : lsel (Array.replicate ops.length false) = fun _ => false := funext hz
    refine hs.drew.congr (fun t v hv => ?_) fun k => ?_
    · rw [hz'] at hv
      change lk t (selFr (fun _ => false) 0 ers st.fr) = some v at hv
      rw [lk_selFr] at hv
      have : lastW (fun _ => false) t 0 ers = none := by
        have := lastW_take (sel := fun _ => false) (t := t) (l := ers) (n := 0) (i := 0) (fun _ _ => rfl)
        simpa [lastW] using this.symm
      rw [this] at hv
      exact hv
    · rw [hz']
      change lk k (selMem (fun _ => false) 0 ers st.mem) = _
      rw [lk_selMem]
      cases hx : lastN (fun _ => false) k 0 ers with
      | none => rfl
      | some c => obtain ⟨_, _, _, _, h2, _⟩ := lastN_some hx; cases h2
  have := heads_sound (Q := fun e a' w' => ∃ st' g', Q e st' ∧ Sim cx g' st' a' w') (nx0 := nx) H hl he hc' (fun g' a' w' hs' => ⟨st', g', hq, hs'⟩) ops.length (listed := Array.replicate ops.length false) (by simp) (fun j hj => by rw [hz j] at hj; cases hj) (fun j _ hj => by rw [hz j] at hj; cases hj) hto hs0
  simpa using this

end
end Go.Ide

/-
  A state in other words, said by the other state: what is equal is said by conditions.
-/
namespace Go.Ide

structure CvS where
  ch : List (Nat × Nat)
  vs : List Nat
  tr : List Nat
  fz : Bool

def lkB (k k' : Nat) (ch : List (Nat × Nat)) : Bool :=
  match lk k ch with
  | some q => Nat.beq q k'
  | none => false

theorem lkB_iff {k k' : Nat} {ch : List (Nat × Nat)} (h : lkB k k' ch = true) : lk k ch = some k' := by
  unfold lkB at h
  split at h
  · rename_i q hq; rw [hq, beq_of h]
  · cases h

def hasK (k : Nat) (ch : List (Nat × Nat)) : Bool := match lk k ch with | some _ => true | none => false

def CvS.m0 (s : CvS) (m : Mem) : Mem := bif s.fz then m.filter (fun p => !(hasK p.1 s.ch)) else []

def cvC (s : CvS) (m0 m' : Mem) (c c' : ICell) : Option (List Prop) :=
  match c' with
  | .dat t x' => (match cdat m0 t c with
    | some x => some [x' = x]
    | none => none)
  | .ptr k' off' => (match c with
    | .ptr k off => bif lkB k k' s.ch && Nat.beq off off' then some [] else none
    | _ => none)
  | .elp k' i' sz' off' => (match c with
    | .elp k i sz off => bif lkB k k' s.ch && (Nat.beq sz sz' && Nat.beq off off') then some [i' = i] else none
    | _ => none)
  | .ip t' x' off' => (match c with
    | .ip t x off => bif Nat.beq off off' then (if h : t' = t then some [castD h x' = x] else none) else none
    | .ptr k off => (match lk k m0 with
      | some (.box cs) => bif Nat.beq off off' then (match impl m0 t' cs with
        | some (x, []) => some [x' = x]
        | _ => none) else none
      | _ => none)
    | _ => none)
  | .all k' => (match c with
    | .all k => bif lkB k k' s.ch && !(memN k s.tr) then some [] else none
    | .nilS => bif memN k' s.vs then some [] else none
    | .ref k off len => bif lkB k k' s.ch && memN k s.tr then (match lk k' m' with
      | some (.seq _ xs') => some [off = 0, List.length xs' = len]
      | _ => none) else none
    | _ => none)
  | .ref k' off' len' => (match c with
    | .ref k off len => bif lkB k k' s.ch && !(memN k s.tr) then some [off' = off, len' = len] else none
    | _ => none)
  | .nilS => (match c with
    | .nilS => some []
    | _ => none)
  | .fn f' => (match c with
    | .fn f => if f' = f then some [] else none
    | _ => none)
  | .junk => bif c.ok then some [] else none
  | .bad => none

def cvCs (s : CvS) (m0 m' : Mem) : List ICell → List ICell → Option (List Prop)
  | [], [] => some []
  | c :: r, c' :: r' => (match cvC s m0 m' c c', cvCs s m0 m' r r' with
    | some p, some q => some (p ++ q)
    | _, _ => none)
  | _, _ => none

def cvV (s : CvS) (m0 m' : Mem) (v v' : IVal) : Option (List Prop) :=
  match v' with
  | .one c' => (match v with
    | .one c => cvC s m0 m' c c'
    | _ => none)
  | .agg cs' => (match v with
    | .agg cs => cvCs s m0 m' cs cs'
    | _ => none)
  | .tup _ => none
  | .und => none
  | .junk => some []

def cvFr (s : CvS) (m0 m' : Mem) (fr : Fr) : Fr → Option (List Prop)
  | [] => some []
  | (t, v') :: r => (match lk t fr with
    | some v => (match cvV s m0 m' v v', cvFr s m0 m' fr r with
      | some p, some q => some (p ++ q)
      | _, _ => none)
    | none => none)

def cvCh (s : CvS) (m0 m' : Mem) (k : Nat) (c c' : Chunk) : Option (List Prop) :=
  match c' with
  | .box cs' => (match c with
    | .box cs => cvCs s m0 m' cs cs'
    | _ => none)
  | .seq t' xs' => (match c with
    | .seq t xs => if h : t' = t then (bif memN k s.tr then some [castD (congrArg Ty.sl h) xs' = List.take (List.length xs') xs] else some [castD (congrArg Ty.sl h) xs' = xs]) else none
    | _ => none)
  | .gone => none

def cvM (s : CvS) (m m0 m' : Mem) : Mem → Option (List Prop)
  | [] => some []
  | (k', c') :: r => (match lk k' (inv s.ch) with
    | some k => (match lk k m with
      | some c => (match cvCh s m0 m' k c c', cvM s m m0 m' r with
        | some p, some q => some (p ++ q)
        | _, _ => none)
      | none => none)
    | none => bif memN k' s.vs then (match c' with
      | .seq _ xs' => (match cvM s m m0 m' r with
        | some q => some ((xs' = []) :: q)
        | none => none)
      | _ => none) else none)

def hasM (k : Nat) (m : Mem) : Bool := match lk k m with | some _ => true | none => false

def CvS.okB (s : CvS) (m' : Mem) (own : List Nat) : Bool :=
  (nodupB (s.ch.map Prod.fst) && nodupB (s.ch.map Prod.snd)) && ((s.ch.all fun p => hasM p.2 m') && ((s.vs.all fun k => hasM k m' && !(memN k (s.ch.map Prod.snd))) && (own.all fun k => lkB k k s.ch)))

def St.cv (s : CvS) (own : List Nat) (st st' : St) : Option (List Prop) :=
  bif s.okB st'.mem own then (match cvFr s (s.m0 st.mem) st'.mem st.fr st'.fr, cvM s st.mem (s.m0 st.mem) st'.mem st'.mem with
    | some p, some q => some (p ++ q)
    | _, _ => none) else none

theorem hasM_iff {k : Nat} {m : Mem} (h : hasM k m = true) : lk k m ≠ none := by
  unfold hasM at h
  split at h
  · rename_i c hc; rw [hc]; simp
  · cases h

theorem hasK_iff {k : Nat} {ch : List (Nat × Nat)} : hasK k ch = true ↔ ∃ k', lk k ch = some k' := by
  unfold hasK
  cases lk k ch with
  | some q => exact ⟨fun _ => ⟨q, rfl⟩, fun _ => rfl⟩
  | none => exact ⟨fun h => (by cases h), fun h => (by obtain ⟨k', h⟩ := h; cases h)⟩

theorem lk_filter {p : Nat → Bool} : ∀ {m : Mem} {k : Nat} {c : Chunk}, lk k (m.filter fun q => p q.1) = some c → lk k m = some c ∧ p k = true
  | [], k, c, h => by simp [lk_nil] at h
  | (q, d) :: m, k, c, h => by
    cases hp : p q with
    | false =>
      rw [List.filter_cons_of_neg (by simp [hp])] at h
      obtain ⟨h1, h2⟩ := lk_filter h
      rw [lk_cons]
      have hne : k ≠ q := by rintro rfl; rw [hp] at h2; cases h2
      rw [if_neg hne]
      exact ⟨h1, h2⟩
    | true =>
      rw [List.filter_cons_of_pos (by simp [hp])] at h
      rw [lk_cons] at h ⊢
      split at h
      · rename_i e; subst e; rw [if_pos rfl]; exact ⟨h, hp⟩
      · rename_i e; rw [if_neg e]; exact lk_filter h

theorem lk_cvFr {s : CvS} {m0 m' : Mem} {fr : Fr} : ∀ {fr' : Fr} {ps : List Prop} {t : Nat} {v' : IVal}, cvFr s m0 m' fr fr' = some ps → AllP ps → lk t fr' = some v' → ∃ v p, lk t fr = some v ∧ cvV s m0 m' v v' = some p ∧ AllP p
  | [], ps, t, v', h, _, hl => by simp [lk_nil] at hl
  | (q, u') :: r, ps, t, v', h, hp, hl => by
    simp only [cvFr] at h
    split at h
    · rename_i v hv
      split at h
      · rename_i p q' h1 h2
        injection h with h
        subst h
        obtain ⟨hp1, hp2⟩ := hp.append
        rw [lk_cons] at hl
        split at hl
        · rename_i e; subst e; injection hl with hl; subst hl; exact ⟨v, p, hv, h1, hp1⟩
        · exact lk_cvFr h2 hp2 hl
      · cases h
    · cases h

theorem lk_cvM {s : CvS} {m m0 m' : Mem} : ∀ {l : Mem} {ps : List Prop} {k' : Nat} {c' : Chunk}, cvM s m m0 m' l = some ps → AllP ps → lk k' l = some c' →
    (∃ k c p, lk k' (inv s.ch) = some k ∧ lk k m = some c ∧ cvCh s m0 m' k c c' = some p ∧ AllP p) ∨ (lk k' (inv s.ch) = none ∧ ∃ t, c' = .seq t [])
  | [], ps, k', c', h, _, hl => by simp [lk_nil] at hl
  | (q, d) :: r, ps, k', c', h, hp, hl => by
    simp only [cvM] at h
    split at h
    · rename_i k hk
      split at h
      · rename_i c hc
        split at h
        · rename_i p q' h1 h2
          injection h with h
          subst h
          obtain ⟨hp1, hp2⟩ := hp.append
          rw [lk_cons] at hl
          split at hl
          · rename_i e; subst e; injection hl with hl; subst hl; exact .inl ⟨k, c, p, hk, hc, h1, hp1⟩
          · exact lk_cvM h2 hp2 hl
        · cases h
      · cases h
    · rename_i hk
      cases hb : memN q s.vs with
      | false => rw [hb] at h; cases h
      | true =>
        rw [hb] at h
        simp only [cond_true] at h
        split at h
        · rename_i t xs'
          split at h
          · rename_i q' h2
            injection h with h
            subst h
            rw [lk_cons] at hl
            split at hl
            · rename_i e; subst e; injection hl with hl; subst hl; exact .inr ⟨hk, t, by rw [hp.1]⟩
            · exact lk_cvM h2 hp.2 hl
          · cases h
        · cases h

section
variable {cx : Cx} {g : GM} {st st' : St} {a : Act} {w : World}

theorem Sim.cv {s : CvS} {own : List Nat} {ps : List Prop} (h : Sim cx g st a w) (he : st.cv s own st' = some ps) (hp : AllP ps) (ho : cx.own.map Prod.fst = own) (hF : s.fz = true → cx.FOK) : ∃ g', Sim cx g' st' a w := by
  unfold St.cv at he
  cases hb : s.okB st'.mem own with
  | false => rw [hb] at he; cases he
  | true =>
    rw [hb] at he
    simp only [cond_true] at he
    unfold CvS.okB at hb
    simp only [Bool.and_eq_true] at hb
    obtain ⟨⟨hn1, hn2⟩, hch, hvs, hown⟩ := hb
    have hn1 := nodupB_spec hn1
    have hn2 := nodupB_spec hn2
    split at he
    · rename_i p q hfr hmem
      injection he with he
      subst he
      obtain ⟨hp1, hp2⟩ := hp.append
      let g' : GM := fun k' => (lk k' (inv s.ch)).bind g
      have hg' : ∀ k k', lk k s.ch = some k' → g' k' = g k := fun k k' hk => by
        show (lk k' (inv s.ch)).bind g = g k
        rw [(lk_inv hn1 hn2).1 hk]
        rfl
      have hpres : ∀ k k', lk k s.ch = some k' → lk k' st'.mem ≠ none := fun k k' hk => hasM_iff (List.all_eq_true.1 hch _ (lk_mem hk))
      have hlive : ∀ k' c', lk k' st'.mem = some c' → (∃ k c p, lk k s.ch = some k' ∧ lk k st.mem = some c ∧ cvCh s (s.m0 st.mem) st'.mem k c c' = some p ∧ AllP p ∧ c ≠ .gone ∧ g' k' = g k) ∨ (g' k' = none ∧ ∃ t, c' = .seq t []) := fun k' c' hk => by
        rcases lk_cvM hmem hp2 hk with ⟨k, c, p, h1, h2, h3, h4⟩ | ⟨h1, h2⟩
        · have h5 := (lk_inv hn1 hn2).2 h1
          refine .inl ⟨k, c, p, h5, h2, h3, h4, ?_, hg' k k' h5⟩
          rintro rfl
          unfold cvCh at h3
          split at h3 <;> cases h3
        · refine .inr ⟨?_, h2⟩
          show (lk k' (inv s.ch)).bind g = none
          rw [h1]; rfl
      have hlv : ∀ b, Live g' st'.mem b → ∃ k k' c, lk k s.ch = some k' ∧ lk k st.mem = some c ∧ c ≠ .gone ∧ g k = some b := by
        rintro b ⟨k', c', hk, _, hgk⟩
        rcases hlive k' c' hk with ⟨k, c, p, q1, q2, _, _, q5, q6⟩ | ⟨q1, _⟩
        · exact ⟨k, k', c, q1, q2, q5, by rw [← q6]; exact hgk⟩
        · rw [q1] at hgk; cases hgk
      have hsafe : ∀ b, cx.safe g st.mem w b → cx.safe g' st'.mem w b := fun b ⟨h1, h2, h3⟩ => by
        refine ⟨h1, h2, fun hl => ?_⟩
        obtain ⟨k, k', c, q1, q2, q3, q4⟩ := hlv b hl
        exact h3 ⟨k, c, q2, q3, q4⟩
      have hbase : ∀ k ch b, lk k st.mem = some ch → ch ≠ .gone → g k = some b → s.fz = true → (!(hasK k s.ch)) = true → ¬ b < cx.w0.heap.size := fun k ch b h1 hn hgk hz h2 hlt => by
        rcases h.base k ch b h1 hn hgk with hge | hf
        · omega
        · obtain ⟨p, hpo, hpb⟩ := hF hz b hf
          have hmem' : p.1 ∈ own := by rw [← ho]; exact List.mem_map.2 ⟨p, hpo, rfl⟩
          have hlk := lkB_iff (List.all_eq_true.1 hown _ hmem')
          obtain ⟨k', hk'⟩ : ∃ c', lk p.1 st'.mem = some c' := Option.ne_none_iff_exists'.1 (hpres _ _ hlk)
          rcases hlive p.1 k' hk' with ⟨k2, c2, q2, a1, a2, _, _, a5, _⟩ | ⟨a1, _⟩
          · have : k2 = p.1 := by
              have b1 := (lk_inv hn1 hn2).1 a1
              have b2 := (lk_inv hn1 hn2).1 hlk
              rw [b1] at b2
              injection b2
            subst this
            have := h.inj k p.1 ch c2 b h1 hn a2 a5 hgk (by rw [(h.own p hpo).1, hpb])
            subst this
            rw [hasK_iff.2 ⟨_, hlk⟩] at h2
            cases h2
          · rw [hg' _ _ hlk, (h.own p hpo).1, hpb] at a1
            cases a1
      have hbox : ∀ k cs, lk k (s.m0 st.mem) = some (.box cs) → ∃ b arr, g k = some b ∧ cx.safe g' st'.mem w b ∧ blk w b arr ∧ All2 (CR g st.mem (cx.safe g st.mem w) w) cs arr.toList := by
        intro k cs hl
        unfold CvS.m0 at hl
        cases hz : s.fz with
        | false => rw [hz] at hl; simp [lk_nil] at hl
        | true =>
          rw [hz] at hl
          simp only [cond_true] at hl
          obtain ⟨h1, h2⟩ := lk_filter (p := fun k => !(hasK k s.ch)) hl
          obtain ⟨b, arr, hgk, hb, hall⟩ := h.mem k _ h1
          refine ⟨b, arr, hgk, ⟨hb.lt, fun hlt => absurd hlt (hbase k _ b h1 (by simp) hgk hz h2), fun hl => ?_⟩, hb, hall⟩
          obtain ⟨k1, k1', c1, q1, q2, q3, q4⟩ := hlv b hl
          have := h.inj k k1 _ c1 b h1 (by simp) q2 q3 hgk q4
          subst this
          rw [hasK_iff.2 ⟨_, q1⟩] at h2
          cases h2
      have hread : ReadM g st.mem (s.m0 st.mem) (cx.safe g' st'.mem w) w := by
        intro k t xs hl
        unfold CvS.m0 at hl
        cases hz : s.fz with
        | false => rw [hz] at hl; simp [lk_nil] at hl
        | true =>
          rw [hz] at hl
          simp only [cond_true] at hl
          obtain ⟨h1, h2⟩ := lk_filter (p := fun k => !(hasK k s.ch)) hl
          refine ⟨h1, ?_⟩
          have hc := h.mem k _ h1
          cases hgk : g k with
          | none => rw [hgk] at hc; exact hc
          | some b =>
            rw [hgk] at hc
            obtain ⟨arr, hb, hel⟩ := hc
            refine ⟨⟨hb.lt, fun hlt => ?_, fun hl => ?_⟩, arr, hb, hel.keep fun b hb => ⟨hsafe b hb, rfl⟩⟩
            · exact absurd hlt (hbase k _ b h1 (by simp) hgk hz h2)
            · obtain ⟨k1, k1', c1, q1, q2, q3, q4⟩ := hlv b hl
              have := h.inj k k1 _ c1 b h1 (by simp) q2 q3 hgk q4
              subst this
              rw [hasK_iff.2 ⟨_, q1⟩] at h2
              cases h2
      have hseq : ∀ k k' t xs', lk k s.ch = some k' → lk k' st'.mem = some (.seq t xs') → memN k s.tr = false → lk k st.mem = some (.seq t xs') := fun k k' t xs' hk hl htr => by
        rcases hlive k' _ hl with ⟨k1, c, p, q1, q2, q3, q4, _⟩ | ⟨q1, _⟩
        · have : k1 = k := by
            have a1 := (lk_inv hn1 hn2).1 q1
            have a2 := (lk_inv hn1 hn2).1 hk
            rw [a1] at a2
            injection a2
          subst this
          cases c with
          | seq t1 xs1 =>
            simp only [cvCh] at q3
            split at q3
            · rename_i ht
              subst ht
              rw [htr] at q3
              simp only [cond_false] at q3
              injection q3 with q3
              subst q3
              have := q4.1
              simp only [castD] at this
              rw [q2, this]
            · cases q3
          | box cs => cases q3
          | gone => cases q3
        · have : lk k' (inv s.ch) = some k := (lk_inv hn1 hn2).1 hk
          rcases lk_cvM hmem hp2 hl with ⟨k1, c, p, h1, h2, h3, h4⟩ | ⟨h1, _⟩
          · have : k1 = k := by rw [this] at h1; injection h1 with h1; exact h1.symm
            subst this
            cases c with
            | seq t1 xs1 =>
              simp only [cvCh] at h3
              split at h3
              · rename_i ht
                subst ht
                rw [htr] at h3
                simp only [cond_false] at h3
                injection h3 with h3
                subst h3
                have := h4.1
                simp only [castD] at this
                rw [h2, this]
              · cases h3
            | box cs => cases h3
            | gone => cases h3
          · rw [this] at h1; cases h1
      have hcr : ∀ c c' p v, cvC s (s.m0 st.mem) st'.mem c c' = some p → AllP p → CR g st.mem (cx.safe g st.mem w) w c v → CR g' st'.mem (cx.safe g' st'.mem w) w c' v := by
        intro c c' p v hc hp hr
        cases c' with
        | dat t x' =>
          simp only [cvC] at hc
          split at hc
          · rename_i x hx
            injection hc with hc
            subst hc
            rw [hp.1]
            exact cdat_rep hsafe hread hx hr
          · cases hc
        | ptr k' off' =>
          cases c with
          | ptr k off =>
            simp only [cvC] at hc
            cases hb : (lkB k k' s.ch && Nat.beq off off') with
            | false => rw [hb] at hc; cases hc
            | true =>
              simp only [Bool.and_eq_true] at hb
              have hk := lkB_iff hb.1
              obtain ⟨_, b, h1, h2⟩ := hr
              exact ⟨hpres k k' hk, b, by rw [hg' k k' hk]; exact h1, by rw [← beq_of hb.2]; exact h2⟩
          | _ => cases hc
        | elp k' i' sz' off' =>
          cases c with
          | elp k i sz off =>
            simp only [cvC] at hc
            cases hb : (lkB k k' s.ch && (Nat.beq sz sz' && Nat.beq off off')) with
            | false => rw [hb] at hc; cases hc
            | true =>
              rw [hb] at hc
              simp only [cond_true] at hc
              injection hc with hc
              subst hc
              simp only [Bool.and_eq_true] at hb
              have hk := lkB_iff hb.1
              obtain ⟨_, b, h1, h2⟩ := hr
              exact ⟨hpres k k' hk, b, by rw [hg' k k' hk]; exact h1, by rw [← beq_of hb.2.1, ← beq_of hb.2.2, hp.1]; exact h2⟩
          | _ => cases hc
        | ip t' x' off' =>
          cases c with
          | ip t x off =>
            simp only [cvC] at hc
            cases hb : Nat.beq off off' with
            | false => rw [hb] at hc; cases hc
            | true =>
              rw [hb] at hc
              simp only [cond_true] at hc
              split at hc
              · rename_i ht
                subst ht
                injection hc with hc
                subst hc
                have := beq_of hb
                subst this
                have hx : x' = x := hp.1
                subst hx
                obtain ⟨ad, es, e, hs, hcell, hrep⟩ := hr
                exact ⟨ad, es, e, hsafe _ hs, hcell, Rep.keep (fun b hb => ⟨hsafe b hb, rfl⟩) t' es x' hrep⟩
              · cases hc
          | ptr k off =>
            simp only [cvC] at hc
            split at hc
            · rename_i cs hl
              cases hb : Nat.beq off off' with
              | false => rw [hb] at hc; cases hc
              | true =>
                rw [hb] at hc
                simp only [cond_true] at hc
                split at hc
                · rename_i x hx
                  injection hc with hc
                  subst hc
                  have := beq_of hb
                  subst this
                  have hxx : x' = x := hp.1
                  subst hxx
                  obtain ⟨b, arr, hgk, hsb, hbl, hall⟩ := hbox k cs hl
                  obtain ⟨_, b', hg1, e⟩ := hr
                  rw [hgk] at hg1
                  injection hg1 with hg1
                  subst hg1
                  obtain ⟨v1, v2, e2, r1, r2⟩ := impl_rep hsafe hread t' hx hall
                  have : v2 = [] := by cases v2 with | nil => rfl | cons => exact r2.elim
                  subst this
                  rw [List.append_nil] at e2
                  refine ⟨⟨b, 0, none⟩, arr.toList, by rw [add_none, Nat.zero_add]; exact e, hsb, fun j u hu => ?_, by rw [e2]; exact r1⟩
                  rw [add_none, Nat.zero_add, hbl.cell, ← Array.getElem?_toList]
                  exact hu
                · cases hc
            · cases hc
          | _ => cases hc
        | all k' =>
          cases c with
          | all k =>
            simp only [cvC] at hc
            cases hb : (lkB k k' s.ch && !(memN k s.tr)) with
            | false => rw [hb] at hc; cases hc
            | true =>
              simp only [Bool.and_eq_true, Bool.not_eq_true'] at hb
              have hk := lkB_iff hb.1
              obtain ⟨_, h1, h2⟩ := hr
              exact ⟨hpres k k' hk, h1, fun t xs hl => by rw [hg' k k' hk]; exact h2 t xs (hseq k k' t xs hk hl hb.2)⟩
          | nilS =>
            simp only [cvC] at hc
            cases hb : memN k' s.vs with
            | false => rw [hb] at hc; cases hc
            | true =>
              have hv := List.all_eq_true.1 hvs _ (memN_iff.1 hb)
              simp only [Bool.and_eq_true, Bool.not_eq_true'] at hv
              obtain ⟨b, hr⟩ := hr
              refine ⟨hasM_iff hv.1, by subst hr; rfl, fun t xs hl => ?_⟩
              have : g' k' = none := by
                show (lk k' (inv s.ch)).bind g = none
                cases hi : lk k' (inv s.ch) with
                | none => rfl
                | some k =>
                  have := lk_map_snd ((lk_inv hn1 hn2).2 hi)
                  rw [memN_iff.2 this] at hv
                  cases hv.2
              rw [this]
              exact ⟨b, hr⟩
          | ref k off len =>
            simp only [cvC] at hc
            cases hb : (lkB k k' s.ch && memN k s.tr) with
            | false => rw [hb] at hc; cases hc
            | true =>
              rw [hb] at hc
              simp only [cond_true] at hc
              simp only [Bool.and_eq_true] at hb
              have hk := lkB_iff hb.1
              split at hc
              · rename_i t0 xs0 hl0
                injection hc with hc
                subst hc
                obtain ⟨ho0, hlen, _⟩ := hp
                subst ho0
                subst hlen
                obtain ⟨_, h1, h2⟩ := hr
                refine ⟨hpres k k' hk, h1, fun t xs hl => ?_⟩
                rw [hl0] at hl
                injection hl with hl
                injection hl with e1 e2
                subst e1
                have e2 := eq_of_heq e2
                subst e2
                rw [hg' k k' hk]
                rcases lk_cvM hmem hp2 hl0 with ⟨k1, c, p, q1, q2, q3, q4⟩ | ⟨q1, _⟩
                · have : k1 = k := by
                    have a2 := (lk_inv hn1 hn2).1 hk
                    rw [q1] at a2
                    injection a2
                  subst this
                  cases c with
                  | seq t1 xs1 =>
                    simp only [cvCh] at q3
                    split at q3
                    · rename_i ht
                      subst ht
                      obtain ⟨_, hx⟩ := h2 _ xs1 q2
                      rcases hx with ⟨hz, hn, a, ha⟩ | ⟨b, cap, arr, hg, e, k1, k2, k3, k4⟩
                      · rw [hn rfl, hz.symm.symm]; exact ⟨a, by rw [ha]⟩
                      · rw [hg]
                        exact ⟨cap, arr, by rw [e, Nat.zero_mul], k1, k2, by rw [Nat.zero_add] at k3; exact k3, k4⟩
                    · cases q3
                  | box cs => cases q3
                  | gone => cases q3
                · rw [(lk_inv hn1 hn2).1 hk] at q1; cases q1
              · cases hc
          | _ => cases hc
        | ref k' off' len' =>
          cases c with
          | ref k off len =>
            simp only [cvC] at hc
            cases hb : (lkB k k' s.ch && !(memN k s.tr)) with
            | false => rw [hb] at hc; cases hc
            | true =>
              rw [hb] at hc
              simp only [cond_true] at hc
              injection hc with hc
              subst hc
              obtain ⟨e1, e2, _⟩ := hp
              subst e1
              subst e2
              simp only [Bool.and_eq_true, Bool.not_eq_true'] at hb
              have hk := lkB_iff hb.1
              obtain ⟨_, h1, h2⟩ := hr
              exact ⟨hpres k k' hk, h1, fun t xs hl => by rw [hg' k k' hk]; exact h2 t xs (hseq k k' t xs hk hl hb.2)⟩
          | _ => cases hc
        | nilS =>
          cases c with
          | nilS => exact hr
          | _ => cases hc
        | fn f' =>
          cases c with
          | fn f =>
            simp only [cvC] at hc
            split at hc
            · rename_i hf; subst hf; exact hr
            · cases hc
          | _ => cases hc
        | junk =>
          simp only [cvC] at hc
          cases hb : c.ok with
          | false => rw [hb] at hc; cases hc
          | true => exact CR_one hb hr
        | bad => cases hc
      have hcrs : ∀ cs cs' p vs, cvCs s (s.m0 st.mem) st'.mem cs cs' = some p → AllP p → All2 (CR g st.mem (cx.safe g st.mem w) w) cs vs → All2 (CR g' st'.mem (cx.safe g' st'.mem w) w) cs' vs := by
        intro cs
        induction cs with
        | nil =>
          intro cs' p vs hc hp hr
          cases cs' with
          | cons => cases hc
          | nil => cases vs with
            | nil => trivial
            | cons => exact hr.elim
        | cons c cs ih =>
          intro cs' p vs hc hp hr
          cases cs' with
          | nil => cases hc
          | cons c' cs' =>
            simp only [cvCs] at hc
            split at hc
            · rename_i p1 p2 h1 h2
              injection hc with hc
              subst hc
              obtain ⟨hp1, hp2⟩ := hp.append
              cases vs with
              | nil => exact hr.elim
              | cons v vs => exact ⟨hcr c c' p1 v h1 hp1 hr.1, ih cs' p2 vs h2 hp2 hr.2⟩
            · cases hc
      refine ⟨g', h.defers, h.size, fun t v' hl => ?_, fun k' c' hk => ?_, ?_, fun k' c' b hk hn hg => ?_, h.keep, fun p hp => ?_⟩
      · obtain ⟨v, p, h1, h2, h3⟩ := lk_cvFr hfr hp1 hl
        have hv := h.fr t v h1
        unfold cvV at h2
        split at h2
        · split at h2
          · exact hcr _ _ p _ h2 h3 hv
          · cases h2
        · split at h2
          · obtain ⟨vs, e, hvs⟩ := hv
            exact ⟨vs, e, hcrs _ _ p vs h2 h3 hvs⟩
          · cases h2
        · cases h2
        · cases h2
        · trivial
      · rcases hlive k' c' hk with ⟨k, c, p, q1, q2, q3, q4, q5, q6⟩ | ⟨q1, t, q2⟩
        · have hch := h.mem k c q2
          rw [q6]
          cases c' with
          | box cs' =>
            cases c with
            | box cs =>
              obtain ⟨b, arr, e, hb, hall⟩ := hch
              exact ⟨b, arr, e, hb, hcrs cs cs' _ _ q3 q4 hall⟩
            | seq t xs => cases q3
            | gone => cases q3
          | gone => cases q3
          | seq t' xs' =>
            cases c with
            | box cs => cases q3
            | gone => cases q3
            | seq t xs =>
              simp only [cvCh] at q3
              split at q3
              · rename_i ht
                subst ht
                have hsub : ∃ n, xs' = xs.take n := by
                  cases htr : memN k s.tr with
                  | true =>
                    rw [htr] at q3
                    simp only [cond_true] at q3
                    injection q3 with q3
                    subst q3
                    exact ⟨_, q4.1⟩
                  | false =>
                    rw [htr] at q3
                    simp only [cond_false] at q3
                    injection q3 with q3
                    subst q3
                    have : xs' = xs := q4.1
                    exact ⟨xs.length, by rw [this, List.take_length]⟩
                obtain ⟨n, hn⟩ := hsub
                cases hgk : g k with
                | none =>
                  rw [hgk] at hch
                  have : xs = [] := hch
                  subst this
                  show xs' = []
                  rw [hn]; simp
                | some b =>
                  rw [hgk] at hch
                  obtain ⟨arr, hb, hel⟩ := hch
                  refine ⟨arr, hb, fun i hi => ?_⟩
                  subst hn
                  have hi' : i < xs.length := by
                    have := List.length_take_le' n xs
                    omega
                  obtain ⟨es, k1, k2⟩ := (hel.keep fun b hb => ⟨hsafe b hb, rfl⟩ : ElsR (cx.safe g' st'.mem w) w t' xs arr) i hi'
                  refine ⟨es, k1, ?_⟩
                  rw [List.getElem_take]
                  exact k2
              · cases q3
        · subst q2
          rw [q1]
          rfl
      · intro k1 k2 c1 c2 b hk1 hn1' hk2 hn2' hg1 hg2
        rcases hlive k1 c1 hk1 with ⟨q, d, p, a1, a2, a3, a4, a5, a6⟩ | ⟨a1, _⟩
        · rcases hlive k2 c2 hk2 with ⟨q', d', p', b1, b2, b3, b4, b5, b6⟩ | ⟨b1, _⟩
          · have := h.inj q q' d d' b a2 a5 b2 b5 (by rw [← a6]; exact hg1) (by rw [← b6]; exact hg2)
            subst this
            rw [a1] at b1
            injection b1
          · rw [b1] at hg2; cases hg2
        · rw [a1] at hg1; cases hg1
      · rcases hlive k' c' hk with ⟨q, d, p, a1, a2, a3, a4, a5, a6⟩ | ⟨a1, _⟩
        · exact h.base q d b a2 a5 (by rw [← a6]; exact hg)
        · rw [a1] at hg; cases hg
      · have hmem' : p.1 ∈ own := by rw [← ho]; exact List.mem_map.2 ⟨p, hp, rfl⟩
        have hlk := lkB_iff (List.all_eq_true.1 hown _ hmem')
        exact ⟨by rw [hg' _ _ hlk]; exact (h.own p hp).1, hpres _ _ hlk⟩
    · cases he

theorem HT.cv {Q : Exit → St → Prop} {c : Code} {s : CvS} {own : List Nat} {ps : List Prop} (st' : St) (ho : cx.own.map Prod.fst = own) (hF : s.fz = true → cx.FOK) (he : st.cv s own st' = some ps) (hp : AllP ps) (h : HT cx st' c Q) : HT cx st c Q :=
  fun _ a w hs => let ⟨g', hs'⟩ := hs.cv he hp ho hF; h g' a w hs'

end
end Go.Ide

/-
  Told by plain functions: rules for proofs that a program prints.
-/
namespace Go.Ide

/-- Some rounds of a loop. -/
def runN {σ ρ : Type} (f : σ → Option (σ ⊕ ρ)) : Nat → σ → Option ρ
  | 0, _ => none
  | n + 1, s => match f s with
    | some (.inl s') => runN f n s'
    | some (.inr r) => some r
    | none => none

theorem runN_mono {σ ρ : Type} {f : σ → Option (σ ⊕ ρ)} : ∀ {n m : Nat} {s : σ} {r : ρ}, n ≤ m → runN f n s = some r → runN f m s = some r
  | 0, _, _, _, _, h => by cases h
  | n + 1, 0, _, _, hle, _ => by omega
  | n + 1, m + 1, s, r, hle, h => by
    simp only [runN] at h ⊢
    cases hf : f s with
    | none => simp [hf] at h
    | some x =>
      cases x with
      | inr r' => rw [hf] at h; exact h
      | inl s' => rw [hf] at h; exact runN_mono (Nat.le_of_succ_le_succ hle) h

/-- A loop's result, if it ends. -/
noncomputable def rounds {σ ρ : Type} (f : σ → Option (σ ⊕ ρ)) (s : σ) : Option ρ :=
  @dite (Option ρ) (∃ r, ∃ n, runN f n s = some r) (Classical.propDecidable _) (fun h => some (Classical.choose h)) (fun _ => none)

theorem rounds_iff {σ ρ : Type} {f : σ → Option (σ ⊕ ρ)} {s : σ} {r : ρ} : rounds f s = some r ↔ ∃ n, runN f n s = some r := by
  unfold rounds
  constructor
  · intro h
    split at h
    · rename_i hx
      injection h with h
      subst h
      exact Classical.choose_spec hx
    · cases h
  · rintro ⟨n, hn⟩
    have hx : ∃ r, ∃ n, runN f n s = some r := ⟨r, n, hn⟩
    rw [dif_pos hx]
    obtain ⟨m, hm⟩ := Classical.choose_spec hx
    have h1 := runN_mono (Nat.le_max_left n m) hn
    have h2 := runN_mono (Nat.le_max_right n m) hm
    rw [h1] at h2
    injection h2 with h2
    rw [h2]

theorem rounds_eq {σ ρ : Type} (f : σ → Option (σ ⊕ ρ)) (s : σ) : rounds f s = match f s with
    | some (.inl s') => rounds f s'
    | some (.inr r) => some r
    | none => none := by
  have key : ∀ r, rounds f s = some r ↔ (match f s with
    | some (.inl s') => rounds f s'
    | some (.inr r) => some r
    | none => none) = some r := by
    intro r
    rw [rounds_iff]
    constructor
    · rintro ⟨n, hn⟩
      cases n with
      | zero => cases hn
      | succ n =>
        simp only [runN] at hn
        cases hf : f s with
        | none => rw [hf] at hn; cases hn
        | some x =>
          rw [hf] at hn
          cases x with
          | inl s' => exact rounds_iff.2 ⟨n, hn⟩
          | inr r' => exact hn
    · intro h
      split at h
      · rename_i s' hf
        obtain ⟨n, hn⟩ := rounds_iff.1 h
        exact ⟨n + 1, by simp only [runN]; rw [hf]; exact hn⟩
      · rename_i r' hf
        exact ⟨1, by simp only [runN]; rw [hf]; exact h⟩
      · cases h
  cases h1 : rounds f s with
  | some r => exact ((key r).1 h1).symm
  | none =>
    cases h2 : (match f s with
    | some (.inl s') => rounds f s'
    | some (.inr r) => some r
    | none => none) with
    | none => rfl
    | some r =>
      have := (key r).2 h2
      rw [h1] at this
      cases this

theorem of_bind {α β : Type} {o : Option α} {k : α → Option β} {r : β} (h : o.bind k = some r) : ∃ y, o = some y ∧ k y = some r := by
  cases o with
  | none => cases h
  | some y => exact ⟨y, rfl, h⟩

def guardP {β : Type} (p : Prop) [Decidable p] (k : Option β) : Option β := if p then k else none

theorem of_guard {β : Type} {p : Prop} [Decidable p] {k : Option β} {r : β} (h : guardP p k = some r) : p ∧ k = some r := by
  unfold guardP at h
  split at h
  · rename_i hp; exact ⟨hp, h⟩
  · cases h

theorem guard_pos {β : Type} {p : Prop} [Decidable p] {k : Option β} (h : p) : guardP p k = k := if_pos h

theorem of_bif {β : Type} {b : Bool} {x y : Option β} {r : β} (h : (bif b then x else y) = some r) : (b = true ∧ x = some r) ∨ (b = false ∧ y = some r) := by
  cases b with
  | true => exact .inl ⟨rfl, h⟩
  | false => exact .inr ⟨rfl, h⟩

/-- Ints of the machine. -/
abbrev wadd (k : IntKind) (a b : Int) : Int := k.wrap (a + b)
abbrev wsub (k : IntKind) (a b : Int) : Int := k.wrap (a - b)
abbrev wmul (k : IntKind) (a b : Int) : Int := k.wrap (a * b)
abbrev lenI {α : Type} (xs : List α) : Int := ((List.length xs : Nat) : Int)

section
variable {cx : Cx} {st : St} {P : Program} {N : Nat} {Q : Exit → St → Prop} {x y c : Code}

theorem HT.reg {id : Nat} {ops : List Oper} {rs : List OH} {st' : St} {cs : List Prop} (hP : cx.P = P) (hN : cx.N = N) (he : ireg P N ops ops rs st = some (st', cs)) (hc : AllP cs) (hq : Q .normal st') : HT cx st (.region id ops.toArray false) Q := by
  subst hP; subst hN; exact HT.region he hc hq

theorem HT.regS {id : Nat} {ops : List Oper} {rs : List OH} (st' : St) {cs : List Prop} (hP : cx.P = P) (hN : cx.N = N) (he : ireg P N ops ops rs st = some (st', cs)) (hc : AllP cs) (hq : HT cx st' y Q) : HT cx st (.seq (.region id ops.toArray false) y) Q :=
  HT.seq (HT.reg hP hN he hc hq)

theorem HT.drw {id h : Nat} {ops : List Oper} {hrs : List HR} {tds : List (List Nat)} {rs : List OH} {ers : List ER} {st' : St} {cs cs' : List Prop} {nx : Nat} (hP : cx.P = P) (hN : cx.N = N) (hm : P.follows .mixedOrders = true)
    (hn : (hrs.length == h && Nat.ble h ops.length) = true) (hok : okFrom ops (hrs.map HR.D ++ tds) h 0 ops = true) (hh : ihead P N ops st (ops.take h) hrs [] st.nx = some (ers, cs, nx))
    (he : ireg P N ops (ops.drop h) rs (headSt st ers (fun _ => true) nx) = some (st', cs')) (hc : AllP cs) (hc' : AllP cs') (hq : Q .normal st') : HT cx st (.region id ops.toArray true) Q := by
  subst hP; subst hN; exact HT.draw hm hn hok hh he hc hc' hq

theorem HT.drwS {id : Nat} (h : Nat) {ops : List Oper} {hrs : List HR} {tds : List (List Nat)} {rs : List OH} {ers : List ER} (st' : St) {cs cs' : List Prop} {nx : Nat} (hP : cx.P = P) (hN : cx.N = N) (hm : P.follows .mixedOrders = true)
    (hn : (hrs.length == h && Nat.ble h ops.length) = true) (hok : okFrom ops (hrs.map HR.D ++ tds) h 0 ops = true) (hh : ihead P N ops st (ops.take h) hrs [] st.nx = some (ers, cs, nx))
    (he : ireg P N ops (ops.drop h) rs (headSt st ers (fun _ => true) nx) = some (st', cs')) (hc : AllP cs) (hc' : AllP cs') (hq : HT cx st' y Q) : HT cx st (.seq (.region id ops.toArray true) y) Q :=
  HT.seq (HT.drw hP hN hm hn hok hh he hc hc' hq)

/-- Several ends of a piece meet. -/
theorem HT.seqJ (stJ : St) (h1 : HT cx stJ y Q) (h2 : HT cx stJ y Q → HT cx st x (thenQ cx y Q)) : HT cx st (.seq x y) Q := HT.seq (h2 h1)

/-- One state's words for another's. -/
def Le (cx : Cx) (st st' : St) : Prop := ∀ g a w, Sim cx g st a w → ∃ g', Sim cx g' st' a w

theorem Le.cv {s : CvS} {own : List Nat} {ps : List Prop} {st' : St} (ho : cx.own.map Prod.fst = own) (hF : s.fz = true → cx.FOK) (he : st.cv s own st' = some ps) (hp : AllP ps) : Le cx st st' :=
  fun _ _ _ hs => hs.cv he hp ho hF

theorem Le.ht {st' : St} (h : Le cx st st') (hc : HT cx st' c Q) : HT cx st c Q := fun g a w hs => let ⟨g', hs'⟩ := h g a w hs; hc g' a w hs'

theorem Le.refl : Le cx st st := fun g _ _ hs => ⟨g, hs⟩

/-- A loop that a plain function tells. -/
theorem HT.loopE {σ ρ : Type} {f : σ → Option (σ ⊕ ρ)} {s : σ} {r : ρ} (S : σ → St) (E : ρ → Exit × St) (h : rounds f s = some r) (hc : Q (E r).1 (E r).2)
    (round : ∀ s x, f s = some x → (∀ r', x = .inr r' → Q (E r').1 (E r').2) → HT cx (S s) c (loopQ (fun st' => ∃ s', x = .inl s' ∧ Le cx st' (S s')) Q)) : HT cx (S s) (.loop c) Q := by
  obtain ⟨n, hn⟩ := rounds_iff.1 h
  -- states that are as good as S s
  let I : Nat → St → Prop := fun n st' => ∃ s, Le cx st' (S s) ∧ runN f n s = some r
  have := HT.loop (cx := cx) (c := c) (Q := Q) (α := St) (I := I) (S := id) (n := n) (s := S s) ⟨s, Le.refl, hn⟩ (fun st' ⟨s, _, h0⟩ => by cases h0) (fun n st' ⟨s, hle, hr⟩ => by
    simp only [runN] at hr
    have hx : ∃ x, f s = some x ∧ (∀ r', x = .inr r' → r' = r) ∧ ∀ s', x = .inl s' → runN f n s' = some r := by
      split at hr
      · rename_i s' hf; exact ⟨.inl s', hf, fun r' e => (by cases e), fun s'' e => (by injection e with e; subst e; exact hr)⟩
      · rename_i r' hf; injection hr with hr; exact ⟨.inr r', hf, fun r'' e => (by injection e with e; rw [← e]; exact hr), fun s'' e => (by cases e)⟩
      · cases hr
    obtain ⟨x, hf, h1, h2⟩ := hx
    refine hle.ht ((round s x hf fun r' e => by rw [h1 r' e]; exact hc).mono fun e st1 hq => ?_)
    cases e with
    | normal =>
      obtain ⟨s', e1, hle'⟩ := hq
      exact ⟨st1, rfl, s', hle', h2 s' e1⟩
    | _ => exact hq)
  exact this

theorem nil_test (g : GM) (m : Mem) (S : Nat → Prop) (w : World) {v : IVal} {val : Value} {t : Ty} {xs : List t.D} (hv : vdat m (.sl t) v = some xs) (hm : ReadM g m m (fun _ => True) w) (h : VR g m S w v val) : ∃ a n cap, val = .slice a n cap ∧ (a = none → xs = []) := by
  obtain ⟨cs, h1, h2⟩ := vdat_rep (S2 := fun _ => True) (fun _ _ => trivial) hm hv h
  obtain ⟨a, cap, e, _, hel⟩ := h2
  have : val = .slice a (List.length xs) cap := by
    unfold ValOf at h1
    rw [e] at h1
    simpa [Ty.isSt] using h1.symm
  refine ⟨a, _, cap, this, fun ha => ?_⟩
  cases xs with
  | nil => rfl
  | cons x xs =>
    obtain ⟨ad, es, e1, _⟩ := hel 0 (by simp)
    rw [ha] at e1; cases e1

end
end Go.Ide
