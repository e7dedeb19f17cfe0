/-
  append, make, literals of slices, stores.
-/
import Derived.Test.YthkikckjkhnmlaaIdeJ
namespace Go.Ide

section
variable {P : Program} {g : GM} {m : Mem} {S S2 : Nat → Prop} {w : World}

theorem ElsL.ones {t : Ty} {xs : List t.D} {l : List Value} (h : ElsL S w t xs l) (hl : l.length = xs.length * t.size) : ∀ u ∈ l, u.oneCell' = true := by
  intro u hu
  obtain ⟨k, hk, e⟩ := List.getElem_of_mem hu
  have hsz := t.size_pos
  have hi : k / t.size < xs.length := Nat.div_lt_of_lt_mul (by rw [Nat.mul_comm]; omega)
  obtain ⟨es, h1, h2⟩ := h (k / t.size) hi
  have h3 := h1 (k % t.size) (Nat.mod_lt _ hsz)
  have hk2 : k / t.size * t.size + k % t.size = k := by rw [Nat.mul_comm]; exact Nat.div_add_mod k t.size
  rw [hk2, List.getElem?_eq_getElem hk, e] at h3
  exact Rep.ones t h2 u (List.mem_of_getElem? h3.symm)

/-- What is appended: its cells, one after another. -/
structure Src (S : Nat → Prop) (w : World) (t : Ty) (ys : List t.D) (v : Value) (news : List Value) : Prop where
  len : news.length = ys.length * t.size
  els : ElsL S w t ys news
  val : ∃ a cap, v = .slice a ys.length cap ∧ (ys.length = 0 ∨ ∃ ad, a = some ad ∧ ∀ k u, news[k]? = some u → w.cell? (ad.add k) = some u)

theorem src_seq {t : Ty} {xs : List t.D} {b off len : Nat} {arr : Array Value} {cap : Nat} (hb : blk w b arr) (he : ElsR S w t xs arr) (hle : off + len ≤ xs.length) (hfit : (off + len) * t.size ≤ arr.size) :
    Src S w t ((xs.drop off).take len) (.slice (some ⟨b, off * t.size, none⟩) len cap) ((arr.toList.drop (off * t.size)).take (len * t.size)) := by
  have hlen : ((xs.drop off).take len).length = len := by simp; omega
  refine ⟨?_, fun i hi => ?_, some ⟨b, off * t.size, none⟩, cap, by rw [hlen], .inr ⟨_, rfl, fun k u hu => ?_⟩⟩
  · rw [hlen]; simp; rw [Nat.add_mul] at hfit; omega
  · have hi' : i < len := by rw [hlen] at hi; exact hi
    obtain ⟨es, k1, k2⟩ := he.toL (off + i) (by omega)
    refine ⟨es, fun j hj => ?_, by simpa using k2⟩
    have : (i + 1) * t.size ≤ len * t.size := Nat.mul_le_mul_right _ (by omega)
    rw [Nat.add_mul] at this
    rw [List.getElem?_take, if_pos (by omega), List.getElem?_drop, ← k1 j hj, Nat.add_mul, Nat.add_assoc]
  · rw [add_none, hb.cell]
    rw [List.getElem?_take] at hu
    split at hu
    · simpa using hu
    · cases hu

theorem Src.nil {t : Ty} {a : Option Addr} {c : Nat} : Src S w t ([] : List t.D) (.slice a 0 c) [] :=
  ⟨by simp, fun i hi => by simp at hi, a, c, rfl, .inl rfl⟩

theorem src_rel (hm : ChAll g m S w) {t : Ty} {x : IVal} {ys : List t.D} {v : Value} (h : vdat m (.sl t) x = some ys) (hr : VR g m S w x v) : ∃ news, Src S w t ys v news := by
  unfold vdat at h
  split at h
  · rename_i c hst
    split at h
    · rename_i y he
      injection h with h; subst h
      simp only [impl, impl1] at he
      split at he
      · rename_i z hz
        injection he with he
        injection he with he _
        subst he
        have hr : CR g m S w c v := hr
        cases c with
        | dat t' q =>
          simp only [cdat] at hz
          split at hz
          · rename_i e; subst e
            injection hz with hz; subst hz
            obtain ⟨a, cap, news, e1, h1, h2, h3, h4, h5⟩ := Rep.gather (xs := q) (t := t) hr
            refine ⟨news, h2, h3, a, cap, e1, ?_⟩
            rcases h5 with h5 | h5
            · left; rw [h5]; rfl
            · exact .inr h5
          · cases hz
        | all c =>
          simp only [cdat] at hz
          split at hz
          · rename_i e' xs hl
            split at hz
            · rename_i he2; subst he2
              injection hz with hz; subst hz
              have hx := hr.2.2 e' xs hl
              have hch := hm c _ hl
              unfold AllR at hx
              cases hg : g c with
              | none =>
                rw [hg] at hx hch
                obtain ⟨a, ha⟩ := hx
                have : xs = [] := hch
                subst this
                subst ha
                exact ⟨[], Src.nil⟩
              | some b =>
                rw [hg] at hx hch
                obtain ⟨cap, arr, e1, k1, k2, k3, k4⟩ := hx
                obtain ⟨arr', hb', hel⟩ := hch
                have := k2.eq hb'
                subst this
                subst e1
                have := src_seq (off := 0) (len := xs.length) (cap := cap) k2 hel (by omega) (by rw [Nat.zero_add]; exact Nat.le_trans (Nat.mul_le_mul_right _ k1) k3)
                simp only [List.drop_zero, List.take_length, Nat.zero_mul] at this
                exact ⟨_, this⟩
            · cases hz
          · cases hz
        | ref c off len =>
          simp only [cdat] at hz
          split at hz
          · rename_i e' xs hl
            split at hz
            · rename_i he2; subst he2
              injection hz with hz; subst hz
              obtain ⟨hle, hx⟩ := hr.2.2 e' xs hl
              have hch := hm c _ hl
              rcases hx with ⟨h0, _, a, ha⟩ | ⟨b, cap, arr, hg, e1, k1, k2, k3, k4⟩
              · subst h0
                subst ha
                have : (xs.drop off).take 0 = ([] : List e'.D) := rfl
                exact ⟨[], by simp [castD], fun i hi => by simp [castD] at hi, a, 0, by simp [castD], .inl (by simp [castD])⟩
              · rw [hg] at hch
                obtain ⟨arr', hb', hel⟩ := hch
                have := k2.eq hb'
                subst this
                subst e1
                exact ⟨_, src_seq (cap := cap) k2 hel hle (Nat.le_trans (Nat.mul_le_mul_right _ (by omega)) k3)⟩
            · cases hz
          · cases hz
        | nilS =>
          simp only [cdat] at hz
          injection hz with hz; subst hz
          obtain ⟨a, ha⟩ := hr
          subst ha
          exact ⟨[], Src.nil⟩
        | ptr c off => simp [cdat] at hz
        | elp c i sz => simp [cdat] at hz
        | ip t x off => simp [cdat] at hz
        | fn f => simp [cdat] at hz
        | junk => simp [cdat] at hz
        | bad => simp [cdat] at hz
      · cases he
    · cases h
  · rename_i hst; cases hst
  · cases h

/-- The slice that is appended to. -/
def Base (g : GM) (m : Mem) (S : Nat → Prop) (w : World) (t : Ty) (xs : List t.D) (up : Mem) (v : Value) : Prop :=
  (up = [] ∨ ∃ c ch, up = [(c, .gone)] ∧ lk c m = some ch ∧ ch ≠ .gone) ∧
  ((xs = [] ∧ ∃ a, v = .slice a 0 0) ∨
   ∃ c ch b cap arr, up = [(c, .gone)] ∧ lk c m = some ch ∧ ch ≠ .gone ∧ g c = some b ∧ v = .slice (some ⟨b, 0, none⟩) xs.length cap ∧ xs.length ≤ cap ∧ blk w b arr ∧ cap * t.size ≤ arr.size ∧ cap ≤ maxLen ∧
     ElsL S w t xs (arr.toList.take (xs.length * t.size)))

theorem base_rel (hm : ChAll g m S w) {t : Ty} {x : IVal} {xs : List t.D} {up : Mem} {v : Value} (h : appBase m t x = some (xs, up)) (hr : VR g m S w x v) : Base g m S w t xs up v := by
  unfold appBase at h
  split at h
  · injection h with h
    injection h with h1 h2
    subst h1
    subst h2
    exact ⟨.inl rfl, .inl ⟨rfl, hr⟩⟩
  · rename_i c
    split at h
    · rename_i t' ys hl
      split at h
      · rename_i he
        subst he
        injection h with h
        injection h with h1 h2
        subst h1
        subst h2
        refine ⟨.inr ⟨c, _, rfl, hl, by simp⟩, ?_⟩
        have hx := hr.2.2 t' ys hl
        have hch := hm c _ hl
        unfold AllR at hx
        cases hg : g c with
        | none =>
          rw [hg] at hx hch
          exact .inl ⟨hch, hx⟩
        | some b =>
          rw [hg] at hx hch
          obtain ⟨cap, arr, e1, k1, k2, k3, k4⟩ := hx
          obtain ⟨arr', hb', hel⟩ := hch
          have := k2.eq hb'
          subst this
          have := hel.toL.take (n := ys.length) (Nat.le_refl _)
          rw [List.take_length] at this
          exact .inr ⟨c, _, b, cap, arr, rfl, hl, by simp, hg, e1, k1, k2, k3, k4, this⟩
      · cases h
    · cases h
  · rename_i c len
    split at h
    · rename_i t' ys hl
      split at h
      · rename_i he
        subst he
        injection h with h
        injection h with h1 h2
        subst h1
        subst h2
        refine ⟨.inr ⟨c, _, rfl, hl, by simp⟩, ?_⟩
        obtain ⟨hle, hx⟩ := hr.2.2 t' ys hl
        have hch := hm c _ hl
        have hlen : (ys.take len).length = len := by simp; omega
        rcases hx with ⟨h0, _, a, ha⟩ | ⟨b, cap, arr, hg, e1, k1, k2, k3, k4⟩
        · subst h0
          exact .inl ⟨rfl, a, ha⟩
        · rw [hg] at hch
          obtain ⟨arr', hb', hel⟩ := hch
          have := k2.eq hb'
          subst this
          rw [Nat.zero_mul] at e1
          rw [Nat.zero_add] at k3
          refine .inr ⟨c, _, b, cap, arr, rfl, hl, by simp, hg, ?_, ?_, k2, k3, k4, ?_⟩
          · show v = .slice _ (ys.take len).length cap
            rw [hlen]; exact e1
          · show (ys.take len).length ≤ cap
            rw [hlen]; exact k1
          · show ElsL S w t' (ys.take len) (arr.toList.take ((ys.take len).length * t'.size))
            rw [hlen]
            exact hel.toL.take (by omega)
      · cases h
    · cases h
  · cases h

end

section
variable {cx : Cx} {g : GM} {st : St} {a : Act} {w w' : World}

theorem Sim.newAt (h : Sim cx g st a w) (hfr : lk st.nx st.mem = none) {up : Mem} {G : List Nat} {gk : Option Nat} {ch : Chunk}
    (hup : up = [] ∨ ∃ c ch0, up = [(c, .gone)] ∧ lk c st.mem = some ch0 ∧ ch0 ≠ .gone) (hk : KeepF G w w')
    (hG : G = [] ∨ ∃ c b ch0, up = [(c, .gone)] ∧ lk c st.mem = some ch0 ∧ ch0 ≠ .gone ∧ g c = some b ∧ G = [b])
    (hgk : ∀ b, gk = some b → w.heap.size ≤ b ∨ b ∈ G)
    (hc : ∀ g' m' S', (∀ b, cx.safe g st.mem w b → S' b ∧ w'.heap[b]? = w.heap[b]?) → ChR g' m' S' w' gk ch) :
    ∃ g', g' st.nx = gk ∧ Sim cx g' (st.setMem (up ++ [(st.nx, ch)] ++ st.mem) (st.nx + 1)) a w' := by
  have hlt : ∀ k ch b, lk k st.mem = some ch → ch ≠ .gone → g k = some b → b < w.heap.size := fun k ch b h1 h2 h3 => h.live_lt h1 h2 h3
  let g' : GM := fun k => if k = st.nx then gk else g k
  have hg' : ∀ k, lk k st.mem ≠ none → g' k = g k := by
    intro k hne
    show (if k = st.nx then _ else _) = _
    rw [if_neg (fun e => hne (by rw [e]; exact hfr))]
  have hgn : g' st.nx = gk := if_pos rfl
  have hGup : ∀ b, b ∈ G → Live g st.mem b := by
    intro b hb
    rcases hG with rfl | ⟨c, b', ch0, _, h2, h3, h4, rfl⟩
    · simp at hb
    · simp at hb; subst hb; exact ⟨c, ch0, h2, h3, h4⟩
  have hold : ∀ k ch0, lk k st.mem = some ch0 → lk k (up ++ [(st.nx, ch)] ++ st.mem) = some ch0 ∧ (∀ b, ch0 ≠ .gone → g k = some b → b ∉ G) ∨ lk k (up ++ [(st.nx, ch)] ++ st.mem) = some .gone := by
    intro k ch0 hk0
    have hkn : k ≠ st.nx := fun e => by rw [e, hfr] at hk0; cases hk0
    rcases hup with rfl | ⟨c, ch1, rfl, hc1, hn1⟩
    · left
      refine ⟨by simp [lk_cons, if_neg hkn, hk0], fun b _ _ hb => ?_⟩
      rcases hG with rfl | ⟨c, b', ch0, h1, _⟩
      · simp at hb
      · cases h1
    · by_cases hkc : k = c
      · right; subst hkc; simp [lk_cons]
      · left
        refine ⟨by simp [lk_cons, if_neg hkn, if_neg hkc, hk0], fun b hn hgk' hb => ?_⟩
        rcases hG with rfl | ⟨c', b', ch2, h1, h2, h3, h4, rfl⟩
        · simp at hb
        · simp at hb
          subst hb
          simp at h1
          subst h1
          exact hkc (h.inj k c ch0 ch2 b hk0 hn h2 h3 hgk' h4)
  have hnewk : lk st.nx (up ++ [(st.nx, ch)] ++ st.mem) = some ch := by
    rcases hup with rfl | ⟨c, ch1, rfl, hc1, hn1⟩
    · simp [lk_cons]
    · have : st.nx ≠ c := fun e => by rw [← e, hfr] at hc1; cases hc1
      simp [lk_cons, if_neg this]
  have hnone : ∀ k, lk k st.mem = none → k ≠ st.nx → lk k (up ++ [(st.nx, ch)] ++ st.mem) = none := by
    intro k hk0 hkn
    rcases hup with rfl | ⟨c, ch1, rfl, hc1, hn1⟩
    · simp [lk_cons, if_neg hkn, hk0]
    · have : k ≠ c := fun e => by rw [e, hc1] at hk0; cases hk0
      simp [lk_cons, if_neg hkn, if_neg this, hk0]
  have hrev : ∀ k' ch', lk k' (up ++ [(st.nx, ch)] ++ st.mem) = some ch' → ch' ≠ .gone → k' ≠ st.nx → lk k' st.mem = some ch' ∧ ∀ b, g k' = some b → b ∉ G := by
    intro k' ch' hk' hn' hkn
    cases ho : lk k' st.mem with
    | none => rw [hnone k' ho hkn] at hk'; cases hk'
    | some c0 =>
      rcases hold k' c0 ho with ⟨e1, e2⟩ | e1
      · rw [hk'] at e1; injection e1 with e1; subst e1; exact ⟨rfl, fun b hb => e2 b hn' hb⟩
      · rw [hk'] at e1; injection e1 with e1; exact absurd e1 hn'
  have t : Turn cx g g' st.mem (up ++ [(st.nx, ch)] ++ st.mem) w w' G := by
    refine ⟨hk, hGup, hg', fun k c0 ho => ?_, fun k c0 ho hk2 => ?_⟩
    · rcases hold k c0 ho with ⟨e1, e2⟩ | e1
      · exact .inl ⟨e1, fun hn b hb => e2 b hn hb⟩
      · exact .inr (.inl e1)
    · by_cases e : k = st.nx
      · subst e
        rw [hnewk] at hk2
        injection hk2 with hk2
        subst hk2
        refine ⟨?_, fun hn b hg => ?_⟩
        · rw [hgn]
          refine hc g' _ _ fun b hb => ?_
          obtain ⟨h1, h2, h3⟩ := hb
          have hG' : b ∉ G := fun hb => h3 (hGup b hb)
          refine ⟨⟨Nat.lt_of_lt_of_le h1 hk.size, h2, ?_⟩, hk.block b h1 hG'⟩
          rintro ⟨k, c, hkk, hn, hg⟩
          by_cases e : k = st.nx
          · subst e
            rw [hgn] at hg
            rcases hgk b hg with hx | hx
            · omega
            · exact hG' hx
          · obtain ⟨h4, _⟩ := hrev k c hkk hn e
            exact h3 ⟨k, c, h4, hn, by rw [← hg' k (by rw [h4]; simp)]; exact hg⟩
        · rw [hgn] at hg
          refine ⟨hgk b hg, fun k' ch' hk' hn' hg'' => ?_⟩
          by_cases e : k' = st.nx
          · exact e
          · obtain ⟨h4, h5⟩ := hrev k' ch' hk' hn' e
            have hgk' : g k' = some b := by rw [← hg' k' (by rw [h4]; simp)]; exact hg''
            rcases hgk b hg with hx | hx
            · have := hlt k' ch' b h4 hn' hgk'
              omega
            · exact absurd hx (h5 b hgk')
      · rw [hnone k ho e] at hk2; cases hk2
  exact ⟨g', hgn, h.turn t⟩

theorem Did.newAt {e : Eff} {up : Mem} {G : List Nat} {gk : Option Nat} {t : Ty} {xs : List t.D} {val : Value} (h : Sim cx g st a w) (hw : Fresh st.mem e.new) (he : e.new = [(st.nx, .seq t xs)] ∧ e.upd = up ∧ e.val = .one (.all st.nx))
    (hup : up = [] ∨ ∃ c ch0, up = [(c, .gone)] ∧ lk c st.mem = some ch0 ∧ ch0 ≠ .gone) (hk : KeepF G w w')
    (hG : G = [] ∨ ∃ c b ch0, up = [(c, .gone)] ∧ lk c st.mem = some ch0 ∧ ch0 ≠ .gone ∧ g c = some b ∧ G = [b])
    (hgk : ∀ b, gk = some b → w.heap.size ≤ b ∨ b ∈ G)
    (hc : ∀ S', (∀ b, cx.safe g st.mem w b → S' b ∧ w'.heap[b]? = w.heap[b]?) → ChR (fun _ => none) [] S' w' gk (.seq t xs))
    (hv : AllR gk w' t.size xs.length val) : Did cx st a e val w' := by
  have hfr : lk st.nx st.mem = none := hw (st.nx, .seq t xs) (by rw [he.1]; simp)
  obtain ⟨g', hgn, hs⟩ := h.newAt (ch := .seq t xs) hfr hup hk hG hgk (fun g' m' S' hS => hc S' hS)
  refine ⟨g', ?_, ?_⟩
  · rw [he.1, he.2.1]; exact hs
  · rw [he.1, he.2.1, he.2.2]
    have hl : lk st.nx (up ++ [(st.nx, .seq t xs)] ++ st.mem) = some (.seq t xs) := by
      rcases hup with rfl | ⟨c, ch1, rfl, hc1, hn1⟩
      · simp [lk_cons]
      · have : st.nx ≠ c := fun e => by rw [← e, hfr] at hc1; cases hc1
        simp [lk_cons, if_neg this]
    refine ⟨by rw [hl]; simp, ?_, fun t' xs' hl' => ?_⟩
    · unfold AllR at hv
      cases gk with
      | none => obtain ⟨a, rfl⟩ := hv; rfl
      | some b => obtain ⟨cap, arr, rfl, _⟩ := hv; rfl
    · rw [hl] at hl'
      injection hl' with hl'
      injection hl' with ht hxs
      subst ht
      have hxs := eq_of_heq hxs
      subst hxs
      rw [hgn]
      exact hv

theorem iAppend_sound {T T' : TypeId} {ty : TypeId} {t : Ty} {s x : IVal} {e : Eff} {sv xv : Value} (h : Sim cx g st a w) (hw : Fresh st.mem e.new) (he : iAppend cx.P st.mem st.nx T T' t s x = some e) (hc : AllP e.cond)
    (hs : VR g st.mem (cx.safe g st.mem w) w s sv) (hx : VR g st.mem (cx.safe g st.mem w) w x xv) : Runs cx st a w (Builtin.append_ #[T, T'] ty #[sv, xv]) e := by
  unfold iAppend at he
  split at he
  · rename_i el hu
    split at he
    · rename_i i hi
      cases hb : ((Nat.beq T T' && Nat.beq i.size t.size) && (Nat.ble i.bytes 32768 && i.zero.isSome) && (i.zero.map fun z => Nat.beq z.cells.size t.size).getD false) with
      | false => simp [hb] at he
      | true =>
        rw [hb] at he
        simp only [cond_true] at he
        simp only [Bool.and_eq_true] at hb
        obtain ⟨⟨⟨hT, hsz⟩, hby, hzs⟩, hzc⟩ := hb
        have hT := beq_of hT
        subst hT
        have hsz := beq_of hsz
        have hby := ble_of hby
        obtain ⟨z, hz⟩ := Option.isSome_iff_exists.1 hzs
        rw [hz] at hzc
        have hzc : z.cells.size = t.size := beq_of (by simpa using hzc)
        split at he
        · rename_i xs up ys hbase hsrc
          injection he with he
          subst he
          have hlen : xs.length + ys.length ≤ appMax := hc.1
          unfold appMax at hlen
          obtain ⟨hup, hbv⟩ := base_rel h.mem hbase hs
          obtain ⟨news, hsr⟩ := src_rel h.mem hsrc hx
          obtain ⟨ax, capx, ex, hxc⟩ := hsr.val
          subst ex
          have hbytes : (xs.length + ys.length) * i.bytes ≤ 140737488355328 := by
            calc (xs.length + ys.length) * i.bytes ≤ 4294967296 * 32768 := Nat.mul_le_mul hlen hby
              _ = 140737488355328 := by decide
          have hnl : news.length = ys.length * i.size := by rw [hsz]; exact hsr.len
          -- the block has grown
          have grow : ∀ (base : Option Addr) (cap : Nat) (olds : List Value), olds.length = xs.length * i.size → (xs.length = 0 ∨ ∃ ad, base = some ad ∧ ∀ j v, olds[j]? = some v → w.cell? (ad.add j) = some v) →
              ElsL (cx.safe g st.mem w) w t xs olds → cap < xs.length + ys.length → (up = [] ∨ ∃ c ch0, up = [(c, .gone)] ∧ lk c st.mem = some ch0 ∧ ch0 ≠ .gone) →
              Runs cx st a w (Builtin.append_ #[T, T] ty #[.slice base xs.length cap, .slice ax ys.length capx]) ⟨.one (.all st.nx), [(st.nx, .seq t (xs ++ ys))], up, [List.length xs + List.length ys ≤ appMax]⟩ := by
            intro base cap olds hol ho hels hlt hup
            have hge := grownCap_ge w (xs.length + ys.length) cap el
            have hmx := grownCap_le_maxLen w (xs.length + ys.length) cap el (by unfold maxLen; omega)
            have hr := run_app_grow (P := cx.P) (ty := ty) (c := capx) hu hi hz hol ho hnl hxc hlt hbytes (by omega)
            have hkeep : KeepF [] w (w.drew.alloc (.cells (olds.toArray ++ news.toArray ++ Builtin.zeroCells z.cells (grownCap w (xs.length + ys.length) cap el - (xs.length + ys.length))) el)) :=
              (KeepF.drew [] w).trans (KeepF.alloc _ _ _)
            have hblk := blk.new w.drew (olds.toArray ++ news.toArray ++ Builtin.zeroCells z.cells (grownCap w (xs.length + ys.length) cap el - (xs.length + ys.length))) el
            refine ⟨_, _, hr, ?_⟩
            refine Did.newAt (G := []) (gk := some w.heap.size) h hw ⟨rfl, rfl, rfl⟩ hup hkeep (.inl rfl) (fun b hb => by injection hb with hb; left; omega) (fun S' hS => ⟨_, hblk, ?_⟩) ?_
            · refine ElsL.toR ?_
              simp only [Array.toList_append]
              have h1 : ElsL S' (w.drew.alloc (.cells (olds.toArray ++ news.toArray ++ Builtin.zeroCells z.cells (grownCap w (xs.length + ys.length) cap el - (xs.length + ys.length))) el)) t xs olds := fun i hi => by
                obtain ⟨es, k1, k2⟩ := hels i hi
                exact ⟨es, k1, Rep.keep hS t es _ k2⟩
              have h2 : ElsL S' (w.drew.alloc (.cells (olds.toArray ++ news.toArray ++ Builtin.zeroCells z.cells (grownCap w (xs.length + ys.length) cap el - (xs.length + ys.length))) el)) t ys news := fun i hi => by
                obtain ⟨es, k1, k2⟩ := hsr.els i hi
                exact ⟨es, k1, Rep.keep hS t es _ k2⟩
              exact ElsL.app h1 (by rw [hol, hsz]) h2 hsr.len
            · refine ⟨grownCap w (xs.length + ys.length) cap el, _, ?_, by rw [List.length_append]; exact hge, hblk, ?_, hmx⟩
              · rw [List.length_append]
              · simp only [Array.size_append, List.size_toArray, size_zeroCells, hzc, hol, hnl, hsz, ← Nat.add_mul]
                exact Nat.mul_le_mul_right _ (by omega)
          rcases hbv with ⟨hx0, ab, eb⟩ | ⟨c, ch, b, cap, arr, e1, e2, e3, e4, e5, hcap, hblk, hfit, hmax, hels⟩
          · subst eb
            subst hx0
            by_cases hy : ys.length = 0
            · have hy' : ys = [] := List.eq_nil_of_length_eq_zero hy
              subst hy'
              refine ⟨_, _, run_app_none (P := cx.P) hu hi, ?_⟩
              exact Did.newAt (G := []) (gk := none) h hw ⟨rfl, rfl, rfl⟩ hup (KeepF.refl _ _) (.inl rfl) (fun b hb => by cases hb) (fun S' hS => rfl) ⟨ab, rfl⟩
            · exact grow ab 0 [] (by simp) (.inl rfl) (fun i hi => by simp at hi) (by simp; omega) hup
          · subst e5
            by_cases hroom : xs.length + ys.length ≤ cap
            · have hfit' : (xs.length + ys.length) * i.size ≤ arr.size := by rw [hsz]; exact Nat.le_trans (Nat.mul_le_mul_right _ hroom) hfit
              obtain ⟨w', arr', hr, hb', hl', hk', hs'⟩ := run_app_room (P := cx.P) (ty := ty) hu hi hblk (c := capx) hnl hxc (hsr.els.ones hsr.len) hroom hfit'
              refine ⟨_, _, hr, ?_⟩
              refine Did.newAt (G := [b]) (gk := some b) h hw ⟨rfl, rfl, rfl⟩ hup hk' (.inr ⟨c, b, ch, e1, e2, e3, e4, rfl⟩) (fun b' hb2 => by injection hb2 with hb2; subst hb2; right; simp) (fun S' hS => ⟨arr', hb', ?_⟩) ?_
              · refine ElsL.toR ?_
                rw [hl', hsz]
                have h1 : ElsL S' w' t xs (arr.toList.take (xs.length * t.size)) := fun i hi => by
                  obtain ⟨es, k1, k2⟩ := hels i hi
                  exact ⟨es, k1, Rep.keep hS t es _ k2⟩
                have h2 : ElsL S' w' t ys news := fun i hi => by
                  obtain ⟨es, k1, k2⟩ := hsr.els i hi
                  exact ⟨es, k1, Rep.keep hS t es _ k2⟩
                refine ElsL.app h1 ?_ h2 hsr.len
                have : xs.length * t.size ≤ arr.size := Nat.le_trans (Nat.mul_le_mul_right _ hcap) hfit
                simp; omega
              · refine ⟨cap, arr', by rw [List.length_append], by rw [List.length_append]; exact hroom, hb', ?_, hmax⟩
                have : arr'.size = arr.size := by
                  rw [← Array.length_toList, hl']
                  simp
                  rw [hsz] at hfit' hnl ⊢
                  rw [Nat.add_mul] at hfit'
                  omega
                rw [this]; exact hfit
            · have hle : xs.length * t.size ≤ arr.size := Nat.le_trans (Nat.mul_le_mul_right _ hcap) hfit
              exact grow _ cap (arr.toList.take (xs.length * t.size)) (by rw [hsz]; simp; omega) (.inr ⟨_, rfl, fun j v hj => by
                rw [add_none, hblk.cell]
                rw [List.getElem?_take] at hj
                split at hj
                · simpa using hj
                · cases hj⟩) hels (by omega) hup
        · cases he
    · cases he
  · cases he

end
end Go.Ide
