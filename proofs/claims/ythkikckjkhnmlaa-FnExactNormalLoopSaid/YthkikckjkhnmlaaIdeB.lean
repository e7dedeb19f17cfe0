/-
  How the ideal machine's cells, chunks and states stand in the model's memory; that they stay.
-/
import Derived.Test.YthkikckjkhnmlaaIdeA
namespace Go.Ide

def All2 {α β : Type} (R : α → β → Prop) : List α → List β → Prop
  | [], [] => True
  | a :: as, b :: bs => R a b ∧ All2 R as bs
  | _, _ => False

theorem All2.length {α β : Type} {R : α → β → Prop} : ∀ {as : List α} {bs : List β}, All2 R as bs → as.length = bs.length
  | [], [], _ => rfl
  | _ :: _, _ :: _, h => by simp [All2.length h.2]
  | [], _ :: _, h => h.elim
  | _ :: _, [], h => h.elim

theorem All2.mono {α β : Type} {R R' : α → β → Prop} (hR : ∀ a b, R a b → R' a b) : ∀ {as : List α} {bs : List β}, All2 R as bs → All2 R' as bs
  | [], [], _ => trivial
  | _ :: _, _ :: _, h => ⟨hR _ _ h.1, All2.mono hR h.2⟩
  | [], _ :: _, h => h.elim
  | _ :: _, [], h => h.elim

theorem All2.append {α β : Type} {R : α → β → Prop} : ∀ {as : List α} {bs : List β} {as' : List α} {bs' : List β}, All2 R as bs → All2 R as' bs' → All2 R (as ++ as') (bs ++ bs')
  | [], [], _, _, _, h' => h'
  | _ :: _, _ :: _, _, _, h, h' => ⟨h.1, All2.append h.2 h'⟩
  | [], _ :: _, _, _, h, _ => h.elim
  | _ :: _, [], _, _, h, _ => h.elim

theorem All2.take {α β : Type} {R : α → β → Prop} : ∀ (n : Nat) {as : List α} {bs : List β}, All2 R as bs → All2 R (as.take n) (bs.take n)
  | 0, _, _, _ => by simp [All2]
  | _ + 1, [], [], _ => by simp [All2]
  | n + 1, _ :: _, _ :: _, h => by simpa [All2] using ⟨h.1, All2.take n h.2⟩
  | _ + 1, [], _ :: _, h => h.elim
  | _ + 1, _ :: _, [], h => h.elim

theorem All2.drop {α β : Type} {R : α → β → Prop} : ∀ (n : Nat) {as : List α} {bs : List β}, All2 R as bs → All2 R (as.drop n) (bs.drop n)
  | 0, _, _, h => by simpa using h
  | _ + 1, [], [], _ => by simp [All2]
  | n + 1, _ :: _, _ :: _, h => by simpa using All2.drop n h.2
  | _ + 1, [], _ :: _, h => h.elim
  | _ + 1, _ :: _, [], h => h.elim

theorem All2.get {α β : Type} {R : α → β → Prop} : ∀ {as : List α} {bs : List β} (i : Nat), All2 R as bs → ∀ a, as[i]? = some a → ∃ b, bs[i]? = some b ∧ R a b
  | [], [], _, _, a, h => by simp at h
  | _ :: _, b :: _, 0, h, a, ha => by simp at ha; subst ha; exact ⟨b, rfl, h.1⟩
  | _ :: _, _ :: _, i + 1, h, a, ha => by simpa using All2.get i h.2 a (by simpa using ha)
  | [], _ :: _, _, h, _, _ => h.elim
  | _ :: _, [], _, h, _, _ => h.elim

theorem All2.split {α β : Type} {R : α → β → Prop} : ∀ {as as' : List α} {bs : List β}, All2 R (as ++ as') bs → ∃ b1 b2, bs = b1 ++ b2 ∧ All2 R as b1 ∧ All2 R as' b2
  | [], _, bs, h => ⟨[], bs, rfl, trivial, h⟩
  | _ :: _, _, [], h => h.elim
  | a :: as, as', b :: bs, h => by
    obtain ⟨b1, b2, rfl, h1, h2⟩ := All2.split (as := as) h.2
    exact ⟨b :: b1, b2, rfl, ⟨h.1, h1⟩, h2⟩

/-- One number for all that is not a number. -/
def fcanon : FloatKind → Nat → Nat
  | .f32, b => if b % 2147483648 > 2139095040 then 2143289344 else b
  | .f64, b => if b % 9223372036854775808 > 9218868437227405312 then 9221120237041090560 else b

/-- Block b of the world is just these cells, and none is frozen. -/
def blk (w : World) (b : Nat) (arr : Array Value) : Prop :=
  ∃ T fz, w.heap[b]? = some (.cells arr T fz) ∧ ∀ o, o < arr.size → w.frozen? ⟨b, o, none⟩ = false

theorem blk.cell {w : World} {b : Nat} {arr : Array Value} (h : blk w b arr) (o : Nat) : w.cell? ⟨b, o, none⟩ = arr[o]? := by
  obtain ⟨T, fz, h, _⟩ := h
  simp [World.cell?, h]

theorem blk.lt {w : World} {b : Nat} {arr : Array Value} (h : blk w b arr) : b < w.heap.size := by
  obtain ⟨T, fz, h, _⟩ := h
  exact (Array.getElem?_eq_some_iff.1 h).1

theorem blk.keep {w w' : World} {b : Nat} {arr : Array Value} (h : blk w b arr) (e : w'.heap[b]? = w.heap[b]?) : blk w' b arr := by
  obtain ⟨T, fz, h, hf⟩ := h
  exact ⟨T, fz, by rw [e, h], fun o ho => by rw [World.frozen?_of_block (w := w) e]; exact hf o ho⟩

theorem blk.eq {w : World} {b : Nat} {arr arr' : Array Value} (h : blk w b arr) (h' : blk w b arr') : arr = arr' := by
  obtain ⟨T, fz, h, _⟩ := h
  obtain ⟨T', fz', h', _⟩ := h'
  rw [h] at h'
  injection h' with h'
  injection h'

theorem blk.new (w : World) (arr : Array Value) (T : TypeId) : blk (w.alloc (.cells arr T)) w.heap.size arr :=
  ⟨T, (0, 0), heap_alloc_new w _, fun o _ => by simp⟩

theorem cell_keep {w w' : World} {a : Addr} (e : w'.heap[a.block]? = w.heap[a.block]?) : w'.cell? a = w.cell? a := World.cell?_of_block e

theorem add_block (a : Addr) (n : Nat) : (a.add n).block = a.block := by unfold Addr.add; split <;> rfl

theorem add_add (a : Addr) (n m : Nat) : (a.add n).add m = a.add (n + m) := by
  unfold Addr.add
  split
  · rename_i h; subst h; simp
  · split
    · rename_i h; subst h; simp [*]
    · simp only [Nat.add_eq_zero_iff]
      rw [if_neg (by omega)]
      simp [Nat.add_assoc]

theorem add_none (b o n : Nat) : (⟨b, o, none⟩ : Addr).add n = ⟨b, o + n, none⟩ := by
  unfold Addr.add
  split
  · rename_i h; subst h; rfl
  · rfl

/-- Cells that hold data, in memory of which the blocks in S are not touched. -/
def Rep (S : Nat → Prop) (w : World) : (t : Ty) → List Value → t.D → Prop
  | .int k, cs, n => cs = [.int k n]
  | .flt k, cs, n => ∃ b, cs = [.float k b] ∧ fcanon k b = n
  | .bool, cs, b => cs = [.bool b]
  | .str, cs, s => cs = [.string ⟨s.toArray⟩]
  | .pair a b, cs, x => ∃ c1 c2, cs = c1 ++ c2 ∧ Rep S w a c1 x.1 ∧ Rep S w b c2 x.2
  | .st t, cs, x => Rep S w t cs x
  | .sl t, cs, xs => ∃ a cap, cs = [.slice a (List.length xs) cap] ∧ List.length xs ≤ cap ∧ ∀ i (h : i < List.length xs), ∃ (ad : Addr) (es : List Value), a = some ad ∧ S ad.block ∧
      (∀ j v, es[j]? = some v → w.cell? (ad.add (i * t.size + j)) = some v) ∧ Rep S w t es xs[i]

theorem Rep.keep {S S' : Nat → Prop} {w w' : World} (h : ∀ b, S b → S' b ∧ w'.heap[b]? = w.heap[b]?) : ∀ (t : Ty) (cs : List Value) (x : t.D), Rep S w t cs x → Rep S' w' t cs x
  | .int _, _, _, hr => hr
  | .flt _, _, _, hr => hr
  | .bool, _, _, hr => hr
  | .str, _, _, hr => hr
  | .pair a b, _, x, ⟨c1, c2, e, h1, h2⟩ => ⟨c1, c2, e, Rep.keep h a c1 x.1 h1, Rep.keep h b c2 x.2 h2⟩
  | .st t, cs, x, hr => Rep.keep h t cs x hr
  | .sl t, _, xs, ⟨a, cap, e, hc, hr⟩ => ⟨a, cap, e, hc, fun i hi => by
      obtain ⟨ad, es, ea, hs, hcell, hrep⟩ := hr i hi
      exact ⟨ad, es, ea, (h _ hs).1, fun j v hv => (cell_keep (by rw [add_block]; exact (h _ hs).2)).trans (hcell j v hv), Rep.keep h t es _ hrep⟩⟩

theorem Rep.len {S : Nat → Prop} {w : World} : ∀ (t : Ty) (cs : List Value) (x : t.D), Rep S w t cs x → cs.length = t.size
  | .int _, _, _, hr => by subst hr; rfl
  | .flt _, _, _, ⟨_, e, _⟩ => by subst e; rfl
  | .bool, _, _, hr => by subst hr; rfl
  | .str, _, _, hr => by subst hr; rfl
  | .pair a b, _, x, ⟨c1, c2, e, h1, h2⟩ => by subst e; simp [Ty.size, Rep.len a c1 x.1 h1, Rep.len b c2 x.2 h2]
  | .st t, cs, x, hr => Rep.len t cs x hr
  | .sl t, _, xs, ⟨a, cap, e, _⟩ => by subst e; rfl

abbrev GM := Nat → Option Nat

/-- A slice that is the whole of a chunk. -/
def AllR (gc : Option Nat) (w : World) (sz n : Nat) (v : Value) : Prop :=
  match gc with
  | none => ∃ a, v = .slice a 0 0
  | some b => ∃ cap arr, v = .slice (some ⟨b, 0, none⟩) n cap ∧ n ≤ cap ∧ blk w b arr ∧ cap * sz ≤ arr.size ∧ cap ≤ maxLen

def RefR (gc : Option Nat) (w : World) (sz n off len : Nat) (v : Value) : Prop :=
  off + len ≤ n ∧ ((len = 0 ∧ (off = 0 → gc = none) ∧ ∃ a, v = .slice a 0 0) ∨ ∃ b cap arr, gc = some b ∧ v = .slice (some ⟨b, off * sz, none⟩) len cap ∧ len ≤ cap ∧ blk w b arr ∧ (off + cap) * sz ≤ arr.size ∧ cap ≤ maxLen)

def CR (g : GM) (m : Mem) (S : Nat → Prop) (w : World) : ICell → Value → Prop
  | .dat t x, v => Rep S w t [v] x
  | .ptr c off, v => lk c m ≠ none ∧ ∃ b, g c = some b ∧ v = .pointer (some ⟨b, off, none⟩)
  | .elp c i sz, v => lk c m ≠ none ∧ ∃ b, g c = some b ∧ v = .pointer (some ⟨b, i * sz, none⟩)
  | .ip t x off, v => ∃ (ad : Addr) (es : List Value), v = .pointer (some (ad.add off)) ∧ S ad.block ∧ (∀ j u, es[j]? = some u → w.cell? (ad.add j) = some u) ∧ Rep S w t es x
  | .all c, v => lk c m ≠ none ∧ v.oneCell' = true ∧ ∀ t xs, lk c m = some (.seq t xs) → AllR (g c) w t.size xs.length v
  | .ref c off len, v => lk c m ≠ none ∧ v.oneCell' = true ∧ ∀ t xs, lk c m = some (.seq t xs) → RefR (g c) w t.size xs.length off len v
  | .nilS, v => ∃ a, v = .slice a 0 0
  | .fn f, v => v = .func (.func f) #[] #[]
  | .junk, v => v.oneCell' = true
  | .bad, _ => True

def CV (g : GM) (m : Mem) (S : Nat → Prop) (w : World) (ag : Bool) (cs : List ICell) (v : Value) : Prop :=
  match ag, cs with
  | true, cs => ∃ vs : List Value, v = .agg vs.toArray ∧ All2 (CR g m S w) cs vs
  | false, [c] => CR g m S w c v
  | false, _ => False

def VR (g : GM) (m : Mem) (S : Nat → Prop) (w : World) : IVal → Value → Prop
  | .one c, v => CR g m S w c v
  | .agg cs, v => ∃ vs : List Value, v = .agg vs.toArray ∧ All2 (CR g m S w) cs vs
  | .tup ts, v => ∃ vs : List Value, v = .tuple vs.toArray ∧ All2 (fun t v => CV g m S w t.1 t.2 v) ts vs
  | .und, v => v = undef
  | .junk, _ => True

/-- The elements of a chunk in its block. -/
def ElsR (S : Nat → Prop) (w : World) (t : Ty) (xs : List t.D) (arr : Array Value) : Prop :=
  ∀ i (h : i < xs.length), ∃ es, (∀ j v, es[j]? = some v → arr[i * t.size + j]? = some v) ∧ Rep S w t es xs[i]

def ChR (g : GM) (m : Mem) (S : Nat → Prop) (w : World) (gk : Option Nat) : Chunk → Prop
  | .gone => True
  | .box cs => ∃ b arr, gk = some b ∧ blk w b arr ∧ All2 (CR g m S w) cs arr.toList
  | .seq t xs => match gk with
    | none => xs = []
    | some b => ∃ arr, blk w b arr ∧ ElsR S w t xs arr

/-- What a piece of a function is run in: the program, the number of slots, the world when the call began, which of its blocks may be read, which are the call's own, and by which chunks. -/
structure Cx where
  P : Program
  N : Nat
  w0 : World
  S : Nat → Prop
  F : List Nat
  own : List (Nat × Option Nat)

structure KeepF (F : List Nat) (w w' : World) : Prop where
  os : w'.os = w.os
  tape : w'.tape = w.tape
  output : w'.output = w.output
  size : w.heap.size ≤ w'.heap.size
  block : ∀ b, b < w.heap.size → b ∉ F → w'.heap[b]? = w.heap[b]?
  sz : ∀ b arr, blk w b arr → ∃ arr', blk w' b arr' ∧ arr'.size = arr.size

theorem KeepF.refl (F : List Nat) (w : World) : KeepF F w w := ⟨rfl, rfl, rfl, Nat.le_refl _, fun _ _ _ => rfl, fun _ arr h => ⟨arr, h, rfl⟩⟩
theorem KeepF.trans {F : List Nat} {a b c : World} (h : KeepF F a b) (k : KeepF F b c) : KeepF F a c :=
  ⟨k.os.trans h.os, k.tape.trans h.tape, k.output.trans h.output, Nat.le_trans h.size k.size, fun i hi hf => (k.block i (Nat.lt_of_lt_of_le hi h.size) hf).trans (h.block i hi hf),
    fun b arr hb => let ⟨arr1, h1, e1⟩ := h.sz b arr hb; let ⟨arr2, h2, e2⟩ := k.sz b arr1 h1; ⟨arr2, h2, e2.trans e1⟩⟩

/-- Block b is some chunk's. -/
def Live (g : GM) (m : Mem) (b : Nat) : Prop := ∃ k ch, lk k m = some ch ∧ ch ≠ .gone ∧ g k = some b

def Cx.safe (cx : Cx) (g : GM) (m : Mem) (w : World) (b : Nat) : Prop :=
  b < w.heap.size ∧ (b < cx.w0.heap.size → cx.S b) ∧ ¬ Live g m b

structure Sim (cx : Cx) (g : GM) (st : St) (a : Act) (w : World) : Prop where
  defers : a.defers = []
  size : a.tmps.size = cx.N
  fr : ∀ t v, lk t st.fr = some v → VR g st.mem (cx.safe g st.mem w) w v (a.tmps.getD t undef)
  mem : ∀ k ch, lk k st.mem = some ch → ChR g st.mem (cx.safe g st.mem w) w (g k) ch
  inj : ∀ k k' ch ch' b, lk k st.mem = some ch → ch ≠ .gone → lk k' st.mem = some ch' → ch' ≠ .gone → g k = some b → g k' = some b → k = k'
  base : ∀ k ch b, lk k st.mem = some ch → ch ≠ .gone → g k = some b → cx.w0.heap.size ≤ b ∨ b ∈ cx.F
  keep : KeepF cx.F cx.w0 w
  own : ∀ p ∈ cx.own, g p.1 = p.2 ∧ lk p.1 st.mem ≠ none

theorem Sim.live_lt {cx : Cx} {g : GM} {st : St} {a : Act} {w : World} (h : Sim cx g st a w) {k : Nat} {ch : Chunk} {b : Nat} (hk : lk k st.mem = some ch) (hc : ch ≠ .gone) (hg : g k = some b) : b < w.heap.size := by
  have hm := h.mem k ch hk
  cases ch with
  | gone => exact absurd rfl hc
  | box cs => obtain ⟨b', arr, e, hb, _⟩ := hm; rw [hg] at e; injection e with e; subst e; exact hb.lt
  | seq t xs => rw [hg] at hm; obtain ⟨arr, hb, _⟩ := hm; exact hb.lt

/-- The relations stay where what they read stays. -/
structure Stays (g g' : GM) (m m' : Mem) (S S' : Nat → Prop) (w w' : World) : Prop where
  safe : ∀ b, S b → S' b ∧ w'.heap[b]? = w.heap[b]?
  pres : ∀ c, lk c m ≠ none → lk c m' ≠ none ∧ g' c = g c
  old : ∀ c t xs, lk c m ≠ none → lk c m' = some (.seq t xs) → ∃ xs', lk c m = some (.seq t xs') ∧ xs'.length = xs.length
  blk : ∀ c t xs b arr, lk c m ≠ none → lk c m' = some (.seq t xs) → g c = some b → Ide.blk w b arr → ∃ arr', Ide.blk w' b arr' ∧ arr'.size = arr.size

theorem CR.stays {g g' : GM} {m m' : Mem} {S S' : Nat → Prop} {w w' : World} (h : Stays g g' m m' S S' w w') {c : ICell} {v : Value}
    (hr : CR g m S w c v) : CR g' m' S' w' c v := by
  cases c with
  | dat t x => exact Rep.keep h.safe t [v] x hr
  | ptr c off => obtain ⟨hp, b, hg, e⟩ := hr; exact ⟨(h.pres c hp).1, b, (h.pres c hp).2.trans hg, e⟩
  | elp c i sz => obtain ⟨hp, b, hg, e⟩ := hr; exact ⟨(h.pres c hp).1, b, (h.pres c hp).2.trans hg, e⟩
  | ip t x off =>
    obtain ⟨ad, es, e, hs, hcell, hrep⟩ := hr
    exact ⟨ad, es, e, (h.safe _ hs).1, fun j u hu => (cell_keep (by rw [add_block]; exact (h.safe _ hs).2)).trans (hcell j u hu), Rep.keep h.safe t es x hrep⟩
  | all c =>
    obtain ⟨hp, ho, hr⟩ := hr
    refine ⟨(h.pres c hp).1, ho, fun t xs hl => ?_⟩
    obtain ⟨xs', hl', hlen⟩ := h.old c t xs hp hl
    have hx := hr t xs' hl'
    rw [(h.pres c hp).2]
    unfold AllR at hx ⊢
    cases hg : g c with
    | none => rw [hg] at hx; exact hx
    | some b =>
      rw [hg] at hx
      obtain ⟨cap, arr, e, h1, h2, h3, h4⟩ := hx
      obtain ⟨arr', hb', hs'⟩ := h.blk c t xs b arr hp hl hg h2
      exact ⟨cap, arr', by rw [e, hlen], by omega, hb', by omega, h4⟩
  | ref c off len =>
    obtain ⟨hp, ho, hr⟩ := hr
    refine ⟨(h.pres c hp).1, ho, fun t xs hl => ?_⟩
    obtain ⟨xs', hl', hlen⟩ := h.old c t xs hp hl
    obtain ⟨hle, hx⟩ := hr t xs' hl'
    refine ⟨by omega, ?_⟩
    rw [(h.pres c hp).2]
    rcases hx with hx | ⟨b, cap, arr, hg, e, h1, h2, h3, h4⟩
    · exact .inl hx
    · obtain ⟨arr', hb', hs'⟩ := h.blk c t xs b arr hp hl hg h2
      exact .inr ⟨b, cap, arr', hg, e, h1, hb', by omega, h4⟩
  | nilS => exact hr
  | fn f => exact hr
  | junk => exact hr
  | bad => trivial

theorem VR.stays {g g' : GM} {m m' : Mem} {S S' : Nat → Prop} {w w' : World} (h : Stays g g' m m' S S' w w') : ∀ {c : IVal} {v : Value}, VR g m S w c v → VR g' m' S' w' c v
  | .one _, _, hr => CR.stays h hr
  | .agg _, _, ⟨vs, e, hr⟩ => ⟨vs, e, hr.mono fun _ _ => CR.stays h⟩
  | .tup _, _, ⟨vs, e, hr⟩ => ⟨vs, e, hr.mono fun t v hc => by
      unfold CV at hc ⊢
      split at hc
      · obtain ⟨us, e', hu⟩ := hc; exact ⟨us, e', hu.mono fun _ _ => CR.stays h⟩
      · exact CR.stays h hc
      · exact hc.elim⟩
  | .und, _, h => h
  | .junk, _, _ => trivial

theorem ElsR.keep {S S' : Nat → Prop} {w w' : World} (h : ∀ b, S b → S' b ∧ w'.heap[b]? = w.heap[b]?) {t : Ty} {xs : List t.D} {arr : Array Value} (hr : ElsR S w t xs arr) : ElsR S' w' t xs arr :=
  fun i hi => let ⟨es, h1, h2⟩ := hr i hi; ⟨es, h1, Rep.keep h t es _ h2⟩

end Go.Ide
