/-
  Stores.
-/
import Derived.Test.YthkikckjkhnmlaaIdeL
namespace Go.Ide

section
variable {cx : Cx} {g : GM} {st : St} {a : Act} {w w' : World}

theorem chg_stays (h : Sim cx g st a w) {c b : Nat} {ch ch' : Chunk} {arr arr' : Array Value} (hlk : lk c st.mem = some ch) (hn : ch ≠ .gone) (hg : g c = some b) (hk : KeepF [b] w w') (hb : blk w b arr) (hb' : blk w' b arr')
    (hsz : arr'.size = arr.size) (hn' : ch' ≠ .gone) (hshape : ∀ t xs, ch' = .seq t xs → ∃ xs', ch = .seq t xs' ∧ xs'.length = xs.length) :
    Stays g g st.mem ((c, ch') :: st.mem) (cx.safe g st.mem w) (cx.safe g ((c, ch') :: st.mem) w') w w' := by
  refine ⟨fun b' hs => ?_, fun k hk' => ⟨by rw [lk_cons]; split <;> simp_all, rfl⟩, fun k t xs hk' hl => ?_, fun k t xs b' arr0 hk' hl hg' hb0 => ?_⟩
  · obtain ⟨h1, h2, h3⟩ := hs
    have hne : b' ≠ b := fun e => h3 ⟨c, ch, hlk, hn, by rw [e]; exact hg⟩
    refine ⟨⟨Nat.lt_of_lt_of_le h1 hk.size, h2, ?_⟩, hk.block b' h1 (by simp [hne])⟩
    rintro ⟨k, c0, hkk, hn0, hg0⟩
    rw [lk_cons] at hkk
    by_cases e : k = c
    · subst e; exact h3 ⟨k, ch, hlk, hn, hg0⟩
    · rw [if_neg e] at hkk; exact h3 ⟨k, c0, hkk, hn0, hg0⟩
  · rw [lk_cons] at hl
    by_cases e : k = c
    · subst e
      rw [if_pos rfl] at hl
      injection hl with hl
      obtain ⟨xs', e1, e2⟩ := hshape t xs hl
      exact ⟨xs', by rw [hlk, e1], e2⟩
    · rw [if_neg e] at hl; exact ⟨xs, hl, rfl⟩
  · by_cases e : b' = b
    · subst e
      have := hb0.eq hb
      subst this
      exact ⟨arr', hb', hsz⟩
    · exact ⟨arr0, hb0.keep (hk.block b' hb0.lt (by simp [e])), rfl⟩

theorem Sim.chg (h : Sim cx g st a w) {c b : Nat} {ch ch' : Chunk} {arr arr' : Array Value} (hlk : lk c st.mem = some ch) (hn : ch ≠ .gone) (hg : g c = some b) (hk : KeepF [b] w w') (hb : blk w b arr) (hb' : blk w' b arr')
    (hsz : arr'.size = arr.size) (hn' : ch' ≠ .gone) (hshape : ∀ t xs, ch' = .seq t xs → ∃ xs', ch = .seq t xs' ∧ xs'.length = xs.length)
    (hc : ChR g ((c, ch') :: st.mem) (cx.safe g ((c, ch') :: st.mem) w') w' (some b) ch') : Sim cx g (st.setMem ((c, ch') :: st.mem) st.nx) a w' := by
  have t : Turn cx g g st.mem ((c, ch') :: st.mem) w w' [b] := by
    refine ⟨hk, fun b' hb => by simp at hb; subst hb; exact ⟨c, ch, hlk, hn, hg⟩, fun _ _ => rfl, fun k c0 ho => ?_, fun k c0 ho hk2 => ?_⟩
    · by_cases e : k = c
      · subst e
        rw [hlk] at ho
        injection ho with ho
        subst ho
        refine .inr (.inr ⟨hn, ch', by rw [lk_cons, if_pos rfl], hn', hshape, fun b2 arr2 hg2 hb2 => ?_, by rw [hg]; exact hc⟩)
        rw [hg] at hg2
        injection hg2 with hg2
        subst hg2
        have := hb2.eq hb
        subst this
        exact ⟨arr', hb', hsz⟩
      · refine .inl ⟨by rw [lk_cons, if_neg e]; exact ho, fun hn0 b2 hg2 hm => ?_⟩
        simp at hm
        subst hm
        exact e (h.inj k c c0 ch b2 ho hn0 hlk hn hg2 hg)
    · rw [lk_cons] at hk2
      by_cases e : k = c
      · subst e; rw [hlk] at ho; cases ho
      · rw [if_neg e, ho] at hk2; cases hk2
  exact h.turn t

/-- A store. -/
def RunsU (cx : Cx) (st : St) (a : Act) (w : World) (s : Sem Unit) (e : Eff) : Prop :=
  ∃ w', s.run cx.P w = .ok () w' ∧ Did cx st a e undef w'

theorem run_storeVar {P : Program} {T : TypeId} {n b o : Nat} {arr : Array Value} {v : Value} (hs : sizeT P T = some n) (hb : blk w b arr) (hn : v.cells.toList.length = n) (hle : o + n ≤ arr.size) (h1 : ∀ x ∈ v.cells.toList, x.oneCell' = true) :
    ∃ w' arr', (Instr.storeAt T (.pointer (some ⟨b, o, none⟩)) v).run P w = .ok () w' ∧ blk w' b arr' ∧ arr'.toList = arr.toList.take o ++ v.cells.toList ++ arr.toList.drop (o + n) ∧ KeepF [b] w w' ∧ arr'.size = arr.size := by
  obtain ⟨w', arr', e, k1, k2, k3, k4⟩ := run_storeCells_blk (P := P) v.cells.toList o 0 w arr hb (by omega) h1
  simp only [Nat.add_zero] at k2
  rw [hn] at k2
  refine ⟨w', arr', ?_, k1, k2, k3, ?_⟩
  · have hsz : v.cells.size = n := by rw [← Array.length_toList]; exact hn
    simp [Instr.storeAt, Instr.sureAddr, storeVar, run_sizeT hs, hsz, e]
  · rw [← Array.length_toList, k2]
    simp [hn]
    omega

theorem iStore_sound {T : TypeId} {x v : IVal} {e : Eff} {xa va : Value} (h : Sim cx g st a w) (he : iStore cx.P st.mem T x v = some e) (hc : AllP e.cond)
    (hx : VR g st.mem (cx.safe g st.mem w) w x xa) (hv : VR g st.mem (cx.safe g st.mem w) w v va) : RunsU cx st a w (Instr.storeAt T xa va) e := by
  unfold iStore at he
  split at he
  · rename_i c off n hs
    split at he
    · rename_i cs hl
      cases hb : ((Nat.beq v.cells.length n && Nat.ble (off + n) cs.length) && v.ok) with
      | false => simp [hb] at he
      | true =>
        rw [hb] at he
        simp only [cond_true] at he
        simp only [Bool.and_eq_true] at hb
        obtain ⟨⟨hn, hle⟩, hok⟩ := hb
        have hn := beq_of hn
        have hle := ble_of hle
        injection he with he
        subst he
        obtain ⟨_, b', hg', exa⟩ := hx
        subst exa
        obtain ⟨b, arr, hg, hblk, hall⟩ := h.mem c _ hl
        rw [hg] at hg'
        injection hg' with hg'
        subst hg'
        obtain ⟨vs, evs, hvs⟩ := cells_rel hok hv
        have hvl := hvs.length
        have hal := hall.length
        simp only [Array.length_toList] at hal
        obtain ⟨w', arr', hrun, k1, k2, k3, k4⟩ := run_storeVar (P := cx.P) (o := off) hs hblk (v := va) (by rw [evs]; omega) (by omega) (cells_ones hok hv)
        have hst := chg_stays (ch' := .box (cs.take off ++ v.cells ++ cs.drop (off + n))) h hl (by simp) hg k3 hblk k1 k4 (by simp) (fun t xs e => by cases e)
        refine ⟨w', hrun, g, ?_, trivial⟩
        refine h.chg hl (by simp) hg k3 hblk k1 k4 (by simp) (fun t xs e => by cases e) ⟨b, arr', rfl, k1, ?_⟩
        rw [k2, evs]
        exact (((hall.take off).append hvs).append (hall.drop _)).mono fun _ _ => CR.stays hst
    · cases he
  · rename_i c i sz n hs
    split at he
    · rename_i t xs hl
      cases hb : (Nat.beq n t.size && Nat.beq sz t.size) with
      | false => simp [hb] at he
      | true =>
        rw [hb] at he
        simp only [cond_true] at he
        simp only [Bool.and_eq_true] at hb
        have hn := beq_of hb.1
        have hz := beq_of hb.2
        split at he
        · rename_i x hvd
          injection he with he
          subst he
          have hi : i < xs.length := hc.1
          obtain ⟨_, b', hg', exa⟩ := hx
          subst exa
          obtain ⟨cs, hval, hrep⟩ := vdat_rep (S2 := cx.safe g st.mem w) (fun _ h => h) ReadM.nil hvd hv
          have hcells := valOf_cells hval hrep
          have hcl := Rep.len t cs x hrep
          have hch := h.mem c _ hl
          rw [hg'] at hch
          obtain ⟨arr, hblk, hels⟩ := hch
          have hsp := t.size_pos
          have hfit : (i + 1) * t.size ≤ arr.size := by
            obtain ⟨es, k1, k2⟩ := hels i hi
            have hlen := Rep.len t es _ k2
            have := k1 (t.size - 1) es[t.size - 1] (List.getElem?_eq_getElem (by omega))
            have := (Array.getElem?_eq_some_iff.1 this).1
            rw [Nat.add_mul]
            omega
          rw [Nat.add_mul] at hfit
          subst hz
          obtain ⟨w', arr', hrun, k1, k2, k3, k4⟩ := run_storeVar (P := cx.P) (o := i * t.size) hs hblk (v := va) (by rw [hcells, hcl, hn]) (by omega) (by rw [hcells]; exact Rep.ones t hrep)
          have hst := chg_stays (ch' := .seq t (xs.set i x)) h hl (by simp) hg' k3 hblk k1 k4 (by simp) (fun t' xs' e => by injection e with e1 e2; subst e1; have e2 := eq_of_heq e2; subst e2; exact ⟨xs, rfl, by simp⟩)
          refine ⟨w', hrun, g, ?_, trivial⟩
          refine h.chg hl (by simp) hg' k3 hblk k1 k4 (by simp) (fun t' xs' e => by injection e with e1 e2; subst e1; have e2 := eq_of_heq e2; subst e2; exact ⟨xs, rfl, by simp⟩) ⟨arr', k1, ElsL.toR fun q hq => ?_⟩
          have hq' : q < xs.length := by simpa using hq
          by_cases hqi : q = i
          · subst hqi
            refine ⟨cs, fun j hj => ?_, by rw [List.getElem_set_self]; exact Rep.keep hst.safe t cs x hrep⟩
            rw [k2, hcells, List.append_assoc, List.getElem?_append_right (by simp; omega), List.getElem?_append_left (by simp; omega)]
            congr 1
            simp
            omega
          · obtain ⟨es, e1, e2⟩ := hels.toL q hq'
            refine ⟨es, fun j hj => ?_, by rw [List.getElem_set_ne (fun e => hqi e.symm)]; exact Rep.keep hst.safe t es _ e2⟩
            rw [← e1 j hj, k2, hcells]
            by_cases hlt : q < i
            · have : (q + 1) * t.size ≤ i * t.size := Nat.mul_le_mul_right _ (by omega)
              rw [Nat.add_mul] at this
              rw [List.append_assoc, List.getElem?_append_left (by simp; omega), List.getElem?_take, if_pos (by omega)]
            · have : (i + 1) * t.size ≤ q * t.size := Nat.mul_le_mul_right _ (by omega)
              rw [Nat.add_mul] at this
              rw [List.getElem?_append_right (by simp; omega), List.getElem?_drop]
              congr 1
              simp
              omega
        · cases he
    · cases he
  · cases he

end
end Go.Ide
